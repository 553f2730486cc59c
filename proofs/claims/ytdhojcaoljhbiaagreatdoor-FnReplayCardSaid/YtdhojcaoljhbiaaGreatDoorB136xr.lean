import Derived.Test.YtdhojcaoljhbiaaGreatDoorB132xr
import Derived.Test.YtdhojcaoljhbiaaGreatDoorAbsWxr
import Derived.Test.YtdhojcaoljhbiaaGreatDoorDraw5xr
import Derived.Laws.BytesArg
set_option linter.unusedVariables false
set_option linter.unusedSimpArgs false
set_option maxRecDepth 100000
set_option maxHeartbeats 1000000
set_option maxRecDepth 100000
namespace Go.Q
open Go.RowKit Go.D
section
variable {P:Program} {ops:Array Oper} {o:Oper} {σ:St} {q:Bool}
theorem run_rowStr {w:World} {l:List Int} {v:Value} {G:List Nat} {t t' e:TypeId} (h:C false w (.sl 1 (byR l)) v G) (hu:P.underlying t=some (.slice e)) (he:P.underlying e=some (.int .u8)) (hu':P.underlying t'=some .string) :
 (convert t t' v).run P w=.ok (.string (strOfNums l)) w∧∃ a n m,v=.slice a n m:=by
 obtain⟨a,len,cap,rfl,h1,h2,h3⟩:=h.bytes
 refine⟨?_,_,_,_,rfl⟩
 cases l with
 | nil=>
  simp only [List.length_nil] at h1
  subst h1
  cases a with
  | none=>exact run_convert_bytes_nil w t e hu he 0 cap t' hu'
  | some p=>
   rw [run_convert_bytes_string w t t' e _ 0 cap hu he hu',run_bytesToString w p 0 cap [] (run_loadCells_list (P:=P) w p [] (fun j u hj=>by simp at hj))]
   rfl
 | cons x r=>
  obtain⟨b,off,y,rfl,_,_,_⟩:=h3 0 (by simp at h1;omega)
  refine run_convert_bytes_arg w t e hu he b off len cap (x::r) h1 (fun i hi=>?_) t' hu'
  obtain⟨b2,off2,y2,e1,_,e2,e3⟩:=h3 i hi
  cases e1
  rw [e3]
  simp [List.getD,e2]
theorem R_rowStr {t t' e:TypeId} {x:Operand} {id:Nat} (l:List Int) (ho:o.op=.convert t t' x) (hg:Grd ops o σ q) (hd:o.dst.all (fun d=>Nat.blt d σ.n)=true) (hx:Get σ q x (.one (.rf id))) (hs:look σ.res id=some (.row 1 (byR l)))
 (hu:P.underlying t=some (.slice e)) (he:P.underlying e=some (.int .u8)) (hu':P.underlying t'=some .string):Op1 P ops o σ (σ.put o.dst (q,.a (.one (.t (.v (.string (strOfNums l))))))):=
 .val hg hd fun I w0 a w hr hq=>by
  obtain⟨hv,_⟩:VE I w (.rf id) (a.eval x):=hx.va hr hq
  have hC:C true w (.sl 1 (byR l)) (I.hd id) (I.F id):=hr.res id _ hs
  have hb:=run_rowStr (P:=P) hC.read hu he hu'
  rw [←hv] at hb
  obtain⟨hb,ad,n,m,e0⟩:=hb
  exact⟨_,by simp [execOp,ho,hb],VS_v _⟩
theorem R_rowStr1 {t t' e:TypeId} {x:Operand} {id:Nat} {n:Int} (ho:o.op=.convert t t' x) (hg:Grd ops o σ q) (hd:o.dst.all (fun d=>Nat.blt d σ.n)=true) (hx:Get σ q x (.one (.rf id))) (hs:look σ.res id=some (.row 1 [[.v (.int .u8 n)]]))
 (hu:P.underlying t=some (.slice e)) (he:P.underlying e=some (.int .u8)) (hu':P.underlying t'=some .string):Op1 P ops o σ (σ.put o.dst (q,.a (.one (.t (.v (.string (strOfNums [n]))))))):=
 R_rowStr [n] ho hg hd hx hs hu he hu'
theorem R_xor {t t':TypeId} {x y:Operand} {n m:Int} (ho:o.op=.binOp .xor t x y t') (hg:Grd ops o σ q) (hd:o.dst.all (fun d=>Nat.blt d σ.n)=true) (hx:Get σ q x (.one (.t (.v (.int .i64 n))))) (hy:Get σ q y (.one (.t (.v (.int .i64 m))))) :
 Op1 P ops o σ (σ.put o.dst (q,.a (.one (.t (.v (.int .i64 (bits .xor .i64 n m))))))):=
 Dr ho hg hd hx hy guard_int (h:=fun _ w=>rfl)
end
theorem bget {s:ByteArray} {z:Int} (h:0≤z∧z<s.size):s[z.toNat]?=some (s[z.toNat]?.getD 0):=by
 rw [getElem?_pos s z.toNat (by omega)];rfl
theorem validG_of {vs:List Int} {es:List TEdge} (h1:∀ v∈vs,0≤v∧v≤2) (h2:1≤vs.length∧vs.length≤5) (h3:es.length≤12) (h4:∀ e∈es,edgeOk e vs.length=true) (h5:es.Pairwise (·.ID<·.ID)):validG ⟨vs,es⟩=true:=by
 unfold validG
 simp only [Bool.and_eq_true,List.all_eq_true]
 refine⟨⟨fun v hv=>by have:=h1 v hv;unfold inB;simp;omega,fun k hk=>?_⟩,by unfold inB;simp;omega,by simpa using h3⟩
 have hk:=List.mem_range.1 hk
 unfold edgeAt
 rw [List.getElem?_eq_getElem hk]
 simp only [Bool.and_eq_true,Bool.not_eq_true',Bool.and_eq_false_iff,decide_eq_false_iff_not]
 refine⟨h4 _ (List.getElem_mem hk),?_⟩
 by_cases h0:0<k
 · right
   rw [List.getElem?_eq_getElem (by omega)]
   have:=List.pairwise_iff_getElem.1 h5 (k-1) k (by omega) hk (by omega)
   simp only [Option.getD_some]
   omega
 exact .inl h0
theorem get_dE {l:List TEdge} {i:Nat} (h:i<l.length):l[i]?=some (l[i]?.getD dE):=by rw [List.getElem?_eq_getElem h];rfl
def esOk (n:Nat) (id:Int) (es:List TEdge):Prop:=(∀ e∈es,edgeOk e n=true∧e.ID≤id)∧es.Pairwise (·.ID<·.ID)
theorem esOk_nil (n:Nat):esOk n 0 []:=⟨by simp,List.Pairwise.nil⟩
theorem esOk_more {n:Nat} {id:Int} {es:List TEdge} {e:TEdge} (h:esOk n id es) (h0:0≤id) (h1:id<e.ID) (h2:e.ID≤99) (h3:0≤e.From∧e.From≤n-1) (h4:0≤e.To∧e.To≤n-1) (h5:0≤e.Label∧e.Label≤2):esOk n e.ID (es++[e]):=by
 refine⟨fun x hx=>?_,?_⟩
 · rcases List.mem_append.1 hx with hx|hx
   · have:=h.1 x hx;exact⟨this.1,by omega⟩
   rw [List.mem_singleton.1 hx]
   refine⟨?_,Int.le_refl _⟩
   unfold edgeOk inB;simp;omega
 rw [List.pairwise_append]
 refine⟨h.2,List.pairwise_singleton _ _,fun x hx y hy=>?_⟩
 rw [List.mem_singleton.1 hy]
 have:=h.1 x hx;omega
end Go.Q
namespace Go.Proofs.YtdhojcaoljhbiaaGreatDoor
open Go.RowKit Go.Q Go.D
theorem specl3GraphV:FnD Tryz.prog 88 [] (fun g:TGraph=>validG g=true) (fun g=>.a (.agg (cGraph g))):=by
 refine FnD.walk Tryz.func88 U (by kernel_rfl) Tryz.ntmps88 U (fun g=>rfl) fun w0 g=>?_
 refine Af (Au (Az 2 U U U Cj U U U) U ?_);refine Aa (Af (Ac (Bw (ps:=[]) U U U Cj U U st37 .nil U) U ?_));refine Cp (i:=7) 20001 1 0 U U U ?_;refine Cp (i:=7) 20002 4 1 U U U ?_;refine Au (Az 3 U U U Cj U U U) U ?_;refine An A9 ?_;refine Aa (Ae (Af (Ab ?_)));refine Bd (B8 (xs:=[.const (.int .i64 (2)),.const (.int .i64 (3)),.const (.int .i64 (4)),.const (.int .i64 (4)),.const (.int .i64 (5))]) 9 U U U (.cons (.const U) U U (.cons (.const U) U U (.cons (.const U) U U (.cons (.const U) U U (.cons (.const U) U U .nil))))) Tryz.underlying34 in3 U U U U) U ?_;refine Bi (Bj 1000 (specl1PickInt [2,3,4,4,5] (by decide)) U U U (.tm U) U U (.cons (.tm U) U .nil) (fun _=>rfl) (fun _=>rfl)) ?_
 rintro _ ⟨z10,hz10,rfl⟩
 try dsimp only at hz10
 refine Ah ?_;refine Aa (AW.block ?_);refine Dn (fun (n:Int) (vs:List Int)=>((n≤5-vs.length∧vs.length≤5)∧(0<vs.length∨0<n)∧∀ v∈vs,0≤v∧v≤2)∧True) (fun (n:Int) (vs:List Int)=>⟨_,[(4,(true,.a (.one (.t (.v (.int .i64 n)))))),(0,_),(2,_),(3,_)],[(2,.box [.t (.v (.slice none 0 0)),.t (.v (.slice none 0 0))]),(3,.box [.rf 20001,.rf 20002]),(20001,.row 1 (vs.map cInt)),(20002,.row 4 []),(888888,.cur g)]⟩) (fun (n:Int) (vs:List Int)=>n.toNat) (z10) ([]) ⟨by simp at hz10;simp;omega,Y⟩ Ay ?_
 rintro n vs ⟨hk,he⟩
 refine Ae (Af (Ab ?_));refine Db ?_;refine Aa (Al (.tm U) (fun h12=>?_) (fun h12=>?_))
 · try simp at h12
   refine Am (Ae (AW.block (Ar (Av [0,2,3,4,11,12] [2,3,20001,20002,888888]) ?_)));apply C3 (N:=5) (k:=2) (Hs:=[0,1,2]) (ms:=[[],[3],[3,4]]) (es:=[(0,3,1),(1,4,2)]) (σ1:=_) (SM:=⟨_,[(0,_),(2,_),(3,_),(4,_),(11,_),(12,_),(15,_),(16,_),(17,_)],[(2,_),(3,_),(20001,_),(20002,_),(888888,_)]⟩)
   case hm=>kernel_rfl
   case hB=>kernel_rfl
   case hP=>kernel_rfl
   case hL=>kernel_rfl
   case hN=>rfl
   case hpre=>
    apply As (P:=Tryz.prog) 0 rfl ((by exact Bk rfl (.no rfl) rfl (.tm rfl) Cu)) (by exact .pp) rfl rfl rfl;apply As (P:=Tryz.prog) 1 rfl ((by exact Bm rfl (.no rfl) rfl (.tm rfl) rfl Dm rfl rfl)) (by exact HasV.load (x:=.tmp 15) (.tm rfl) rfl Dm rfl rfl) rfl rfl rfl;apply As (P:=Tryz.prog) 2 rfl (Bh rfl (.no rfl) rfl (.tm rfl)) (by exact HasV.slot (t:=0) rfl) rfl rfl rfl;exact PreOk.nil
   case hS=>exact A4
   case hH=>
    refine LocsH.fq Cu ?_;refine LocsH.lq Dm ?_;refine LocsH.mv ?_
    trivial
   apply Dh.drw0 (i:=3)
   case ha=>rfl
   case ho=>rfl
   case hE=>
    intro  hp
    obtain _:=hp
    exact Bj 1800 (specl1Below _) rfl rfl rfl (.tm rfl) rfl rfl (.cons (.const rfl) rfl .nil) (fun _=>rfl) (fun _=>rfl)
   case hb=>rfl
   case hL=>
    intro  z18 hp hy;exact C7 (Av [0,2,3,4,11,12,15,16,17,18] [2,3,20001,20002,888888]) U
   case hS=>intros;exact A4
   apply Dh.new1 (i:=4);rfl;rfl;rfl
   · intro w9 z18 hp
     obtain⟨_,hz18⟩:=hp
     refine Bd (B8 (xs:=[.tmp 18]) 19 U U U (.cons (.tm U) U U .nil) Tryz.underlying34 in3 U U U U) U ?_;exact Ak [0,2,3,4,11,12,15,16,17,19] [2,3,20001,20002,888888,19]
   intros;exact A4
   refine Dh.fin1 (k:=2) rfl ?_;intro z18 hp
   obtain⟨_,hz18⟩:=hp
   refine Ce (Cc U U U (.tm U) U (.tm U) (by exact .rf U) (by rfl) Tryz.underlying34 in3 U (by (simp [chunk];omega)) (by (unfold maxLen;simp [chunk];omega))) U ?_;refine Bf (Av [0,2,3,4,12,20] [2,3,20001,20002,888888,19]) ?_;refine A8 Cu ?_;refine An Dm ?_;refine Aa (Ad (Ab ?_));refine Cy ?_;refine Ah ?_;refine Aa ?_
   repeat (with_reducible refine A7 ?_)
   refine Round2.next (n-1) (vs++[z18]) ⟨by (try simp at h12);refine⟨by simp;omega,by simp,fun v hv=>?_⟩;rcases List.mem_append.1 hv with hv|hv;exact hk.2.2 v hv;rw [List.mem_singleton.1 hv];omega,Y⟩ (by (try simp at h12);omega) (A6 rfl ⟨rfl,rfl,rfl,rfl,Y⟩ ⟨(by rfl),(by rfl),(by (refine congrArg (fun r=>some (R.row _ r)) ?_;simp [chunk,List.map_set,cInt,cBool,cIntS,cPair,cToken,cExpr,cEdge,cGraph,cStep,cWalk,cChange,cBatch,cHistory,cPositions,cAutomaton,cProductStep,cPathAtom,cConjunction,cView,cDelta,cRegistered,cRegistry])),(by rfl),(by rfl),Y⟩)
 try simp at h12
 refine Bt (Af (Aj ?_));refine Aa (Ae (Af (Ab ?_)));refine Ab ?_;refine Bd (B8 (xs:=[.const (.int .i64 (4)),.const (.int .i64 (8)),.const (.int .i64 (11))]) 24 U U U (.cons (.const U) U U (.cons (.const U) U U (.cons (.const U) U U .nil))) Tryz.underlying34 in3 U U U U) U ?_;refine Bi (Bj 2500 (specl1PickInt [4,8,11] (by decide)) U U U (.tm U) U U (.cons (.tm U) U .nil) (fun _=>rfl) (fun _=>rfl)) ?_
 rintro _ ⟨z25,hz25,rfl⟩
 try dsimp only at hz25
 refine Bi (Bj 2600 (specl1Below _) U U U (.tm U) U U (.cons (.tm U) U .nil) (fun _=>rfl) (fun _=>rfl)) ?_
 rintro _ ⟨z26,hz26,rfl⟩
 try dsimp only at hz26
 refine Ah ?_;refine Aa (AW.block ?_);refine AW.loop3 (fun (n2:Int) (id:Int) (es:List TEdge)=>((n2≤11-es.length∧es.length≤11∧0≤id∧id≤3*es.length)∧esOk vs.length id es)∧True) (fun (n2:Int) (id:Int) (es:List TEdge)=>⟨_,[(6,(true,.a (.one (.t (.v (.int .i64 n2)))))),(5,(true,.a (.one (.t (.v (.int .i64 id)))))),(0,_),(2,_),(3,_)],[(2,.box [.t (.v (.slice none 0 0)),.t (.v (.slice none 0 0))]),(3,.box [.rf 20001,.rf 20002]),(20001,.row 1 (vs.map cInt)),(20002,.row 4 (es.map cEdge)),(888888,.cur g)]⟩) (fun (n2:Int) (id:Int) (es:List TEdge)=>n2.toNat) (z26) (0) ([]) ⟨by simp at hz25;exact⟨by simp;omega,esOk_nil _⟩,Y⟩ Ay ?_
 rintro n2 id es ⟨hk2,he2⟩
 refine Ae (Af (Ab ?_));refine Db ?_;refine Aa (Al (.tm U) (fun h28=>?_) (fun h28=>?_))
 · try simp at h28
   refine Am (Ae (AW.block (Af (Ab ?_))));refine Bs ?_;refine Ab ?_;refine Bi (Bj 3400 (specl1Below _) U U U (.tm U) U U (.cons (.const U) U .nil) (fun _=>rfl) (fun _=>rfl)) ?_
   rintro _ ⟨z34,hz34,rfl⟩
   try dsimp only at hz34
   refine Ac (C5 U (.no U) U (.tm U) (.tm U) (fun _=>by omega)) U ?_;refine Ah ?_;refine Aa (Ar (Av [0,2,3,5,6] [2,3,20001,20002,888888]) ?_);refine Ar (Av [0,2,3,5,6] [2,3,20001,20002,888888]) ?_;apply C3 (N:=18) (k:=8) (Hs:=[0,1,2,3,4,5,6,8,9,10,11,13]) (ms:=[[],[7],[14],[7,12],[7,14],[7,12,14],[7,12,14,15],[7,12,14,15,16],[7,12,14,15,16,17]]) (es:=[(0,7,1),(0,14,2),(1,12,3),(1,14,4),(2,7,4),(3,14,5),(4,12,5),(5,15,6),(6,16,7),(7,17,8)]) (σ1:=_) (SM:=⟨_,[(0,_),(2,_),(3,_),(5,_),(6,_),(36,_),(37,_),(38,_),(39,_),(40,_),(41,_),(42,_),(44,_),(45,_),(46,_),(47,_),(49,_)],[(2,_),(3,_),(20001,_),(20002,_),(888888,_)]⟩)
   case hm=>kernel_rfl
   case hB=>kernel_rfl
   case hP=>kernel_rfl
   case hL=>kernel_rfl
   case hN=>rfl
   case hpre=>
    apply As (P:=Tryz.prog) 0 rfl ((by exact Bk rfl (.no rfl) rfl (.tm rfl) Ca)) (by exact .pp) rfl rfl rfl;apply As (P:=Tryz.prog) 1 rfl ((by exact Bm rfl (.no rfl) rfl (.tm rfl) rfl C6 rfl rfl)) (by exact HasV.load (x:=.tmp 36) (.tm rfl) rfl C6 rfl rfl) rfl rfl rfl;apply As (P:=Tryz.prog) 2 rfl (Bh rfl (.no rfl) rfl (.tm rfl)) (by exact HasV.slot (t:=5) rfl) rfl rfl rfl;apply As (P:=Tryz.prog) 3 rfl (Bh rfl (.no rfl) rfl (.tm rfl)) (by exact HasV.slot (t:=0) rfl) rfl rfl rfl;apply As (P:=Tryz.prog) 4 rfl ((by exact Bk rfl (.no rfl) rfl (.tm rfl) Cu)) (by exact .pp) rfl rfl rfl;apply As (P:=Tryz.prog) 5 rfl ((by exact Bm rfl (.no rfl) rfl (.tm rfl) rfl Dm rfl rfl)) (by exact HasV.load (x:=.tmp 40) (.tm rfl) rfl Dm rfl rfl) rfl rfl rfl;apply As (P:=Tryz.prog) 6 rfl ((by exact Cn rfl (.no rfl) rfl (.tm rfl) (by exact .rf rfl) Tryz.underlying34)) (by exact .val rfl) rfl rfl rfl
    apply As (P:=Tryz.prog) 8 rfl (Bh rfl (.no rfl) rfl (.tm rfl)) (by exact HasV.slot (t:=0) rfl) rfl rfl rfl;apply As (P:=Tryz.prog) 9 rfl ((by exact Bk rfl (.no rfl) rfl (.tm rfl) Cu)) (by exact .pp) rfl rfl rfl;apply As (P:=Tryz.prog) 10 rfl ((by exact Bm rfl (.no rfl) rfl (.tm rfl) rfl Dm rfl rfl)) (by exact HasV.load (x:=.tmp 45) (.tm rfl) rfl Dm rfl rfl) rfl rfl rfl;apply As (P:=Tryz.prog) 11 rfl ((by exact Cn rfl (.no rfl) rfl (.tm rfl) (by exact .rf rfl) Tryz.underlying34)) (by exact .val rfl) rfl rfl rfl;apply As (P:=Tryz.prog) 13 rfl (Bh rfl (.no rfl) rfl (.tm rfl)) (by exact HasV.slot (t:=0) rfl) rfl rfl rfl;exact PreOk.nil
   case hS=>exact A4
   case hH=>
    refine LocsH.fq Ca ?_;refine LocsH.lq C6 ?_;refine LocsH.mv ?_;refine LocsH.mv ?_;refine LocsH.fq Cu ?_;refine LocsH.lq Dm ?_
    refine⟨⟨_,_,_,rfl,rfl,rfl,fun σ' hs=>(by exact Cn rfl (.no rfl) (Ag hs rfl) (.tm (hs.slots _ _ rfl)) (by exact .rf (hs.res _ _ rfl)) Tryz.underlying34)⟩,?_⟩
    refine LocsH.mv ?_;refine LocsH.fq Cu ?_;refine LocsH.lq Dm ?_
    refine⟨⟨_,_,_,rfl,rfl,rfl,fun σ' hs=>(by exact Cn rfl (.no rfl) (Ag hs rfl) (.tm (hs.slots _ _ rfl)) (by exact .rf (hs.res _ _ rfl)) Tryz.underlying34)⟩,?_⟩
    refine LocsH.mv ?_
    trivial
   apply Dh.drw0 (i:=7)
   case ha=>rfl
   case ho=>rfl
   case hE=>
    intro  hp
    obtain _:=hp
    exact Bj 4300 (specl1Below _) rfl rfl rfl (.tm rfl) rfl rfl (.cons (.tm rfl) rfl .nil) (fun _=>rfl) (fun _=>rfl)
   case hb=>rfl
   case hL=>
    intro  z43 hp hy;exact C7 (Av [0,2,3,5,6,36,37,38,39,40,41,42,43,44,45,46,47,49] [2,3,20001,20002,888888]) U
   case hS=>intros;exact A4
   apply Dh.new0 (i:=14);rfl;rfl;rfl
   · intro w9 _;refine Bd (B8 (xs:=[.const (.int .i64 (0)),.const (.int .i64 (0)),.const (.int .i64 (1)),.const (.int .i64 (2))]) 50 U U U (.cons (.const U) U U (.cons (.const U) U U (.cons (.const U) U U (.cons (.const U) U U .nil)))) Tryz.underlying34 in3 U U U U) U ?_;exact Ak [0,2,3,5,6,36,37,38,39,40,41,42,44,45,46,47,49,50] [2,3,20001,20002,888888,50]
   intros;exact A4
   apply Dh.drw1 (i:=12)
   case ha=>rfl
   case ho=>rfl
   case hE=>
    intro z43 hp
    obtain⟨_,hz43⟩:=hp
    exact Bj 4800 (specl1Below _) rfl rfl rfl (.tm rfl) rfl rfl (.cons (.tm rfl) rfl .nil) (fun _=>rfl) (fun _=>rfl)
   case hb=>rfl
   case hL=>
    intro z43 z48 hp hy;exact C7 (Av [0,2,3,5,6,36,37,38,39,40,41,42,43,44,45,46,47,48,49] [2,3,20001,20002,888888]) U
   case hS=>intros;exact A4
   apply Dh.new1 (i:=14);rfl;rfl;rfl
   · intro w9 z43 hp
     obtain⟨_,hz43⟩:=hp
     refine Bd (B8 (xs:=[.const (.int .i64 (0)),.const (.int .i64 (0)),.const (.int .i64 (1)),.const (.int .i64 (2))]) 50 U U U (.cons (.const U) U U (.cons (.const U) U U (.cons (.const U) U U (.cons (.const U) U U .nil)))) Tryz.underlying34 in3 U U U U) U ?_;exact Ak [0,2,3,5,6,36,37,38,39,40,41,42,43,44,45,46,47,49,50] [2,3,20001,20002,888888,50]
   intros;exact A4
   apply Dh.odr0 (i:=7)
   case ha=>rfl
   case ho=>rfl
   case hE=>
    intro  hp
    obtain _:=hp
    exact Bj 4300 (specl1Below _) rfl rfl rfl (.tm rfl) rfl rfl (.cons (.tm rfl) rfl .nil) (fun _=>rfl) (fun _=>rfl)
   case hb=>rfl
   case hL=>
    intro  z43 hp hy;exact Ay
   apply Dh.new2 (i:=14);rfl;rfl;rfl
   · intro w9 z43 z48 hp
     obtain⟨⟨_,hz43⟩,hz48⟩:=hp
     refine Bd (B8 (xs:=[.const (.int .i64 (0)),.const (.int .i64 (0)),.const (.int .i64 (1)),.const (.int .i64 (2))]) 50 U U U (.cons (.const U) U U (.cons (.const U) U U (.cons (.const U) U U (.cons (.const U) U U .nil)))) Tryz.underlying34 in3 U U U U) U ?_;exact Ak [0,2,3,5,6,36,37,38,39,40,41,42,43,44,45,46,47,48,49,50] [2,3,20001,20002,888888,50]
   intros;exact A4
   apply Dh.odr1 (i:=12)
   case ha=>rfl
   case ho=>rfl
   case hE=>
    intro z43 hp
    obtain⟨_,hz43⟩:=hp
    exact Bj 4800 (specl1Below _) rfl rfl rfl (.tm rfl) rfl rfl (.cons (.tm rfl) rfl .nil) (fun _=>rfl) (fun _=>rfl)
   case hb=>rfl
   case hL=>
    intro z43 z48 hp hy;exact Ay
   apply Dh.drw2 (i:=15)
   case ha=>rfl
   case ho=>rfl
   case hE=>
    intro z43 z48 hp
    obtain⟨⟨_,hz43⟩,hz48⟩:=hp
    exact Bj 5100 (specl1PickInt [0,0,1,2] (by decide)) rfl rfl rfl (.tm rfl) rfl rfl (.cons (.tm rfl) rfl .nil) (fun _=>rfl) (fun _=>rfl)
   case hb=>rfl
   case hL=>
    intro z43 z48 z51 hp hy;exact C7 (Av [0,2,3,5,6,36,37,38,39,40,41,42,43,44,45,46,47,48,49,51] [2,3,20001,20002,888888,50]) U
   case hS=>intros;exact A4
   apply Dh.new3 (i:=16);rfl;rfl;rfl
   · intro w9 z43 z48 z51 hp
     obtain⟨⟨⟨_,hz43⟩,hz48⟩,hz51⟩:=hp
     refine Ac (Bw (ps:=[(0,.tmp 38),(1,.tmp 43),(2,.tmp 48),(3,.tmp 51)]) U U U C0 U U st101 (.cons (.tm U) U U fp101_0 (.cons (.tm U) U U fp101_1 (.cons (.tm U) U U fp101_2 (.cons (.tm U) U U fp101_3 .nil)))) U) U ?_;exact Ak [0,2,3,5,6,36,37,38,39,40,41,42,44,45,46,47,49,52] [2,3,20001,20002,888888,50]
   intros;exact A4
   apply Dh.new3 (i:=17);rfl;rfl;rfl
   · intro w9 z43 z48 z51 hp
     obtain⟨⟨⟨_,hz43⟩,hz48⟩,hz51⟩:=hp
     refine Bd (B8 (xs:=[.tmp 52]) 53 U U U (.cons (.tm U) U U .nil) Tryz.underlying35 C0 U U U U) U ?_;exact Ak [0,2,3,5,6,36,37,38,39,40,41,42,44,45,46,47,49,53] [2,3,20001,20002,888888,50,53]
   intros;exact A4
   refine Dh.fin3 (k:=8) rfl ?_;intro z43 z48 z51 hp
   obtain⟨⟨⟨_,hz43⟩,hz48⟩,hz51⟩:=hp
   refine Ce (Cc U U U (.tm U) U (.tm U) (by exact .rf U) (by rfl) Tryz.underlying35 C0 U (by (simp [chunk];omega)) (by (unfold maxLen;simp [chunk];omega))) U ?_;refine Bf (Av [0,2,3,5,6,54] [2,3,20001,20002,888888,50,53]) ?_;refine A8 Ca ?_;refine An C6 ?_;refine Aa (Ad (Ab ?_));refine Cy ?_;refine Ah ?_;refine Aa ?_
   repeat (with_reducible refine A7 ?_)
   refine Round3.next (n2-1) (id+1+z34) (es++[⟨id+1+z34,z43,z48,z51⟩]) ⟨by (try simp at h28);(try simp at hz51);exact⟨by simp;omega,esOk_more hk2.2 (by omega) (by simp only;omega) (by simp only;omega) (by simp only;omega) (by simp only;omega) (by simp only;omega)⟩,Y⟩ (by (try simp at h28);omega) (A6 rfl ⟨rfl,rfl,rfl,rfl,rfl,Y⟩ ⟨(by rfl),(by rfl),(by rfl),(by (refine congrArg (fun r=>some (R.row _ r)) ?_;simp [chunk,List.map_set,cInt,cBool,cIntS,cPair,cToken,cExpr,cEdge,cGraph,cStep,cWalk,cChange,cBatch,cHistory,cPositions,cAutomaton,cProductStep,cPathAtom,cConjunction,cView,cDelta,cRegistered,cRegistry])),(by rfl),Y⟩)
 try simp at h28
 refine Bt (Af (Ai A9 ?_));refine An A9 ?_;refine Aa (Ap ?_);apply DRes.mk (x:=⟨vs,es⟩) rfl
 case h=>
  refine Res.one U (.cell U U A9 U U .nil) U ?_
  rfl
 case hp=>exact validG_of hk.2.2 (by (try simp at h12);omega) (by omega) (fun e he=>(hk2.2.1 e he).1) hk2.2.2
theorem specl3Some (g:TGraph):FnD Tryz.prog 118 [.agg (cGraph g)] (fun _:TEdge=>True) (fun e=>.a (.agg (cEdge e))):=by
 refine FnD.walk Tryz.func118 U (by kernel_rfl) Tryz.ntmps118 U (fun g=>rfl) fun w0 g=>?_
 refine Af (Ac (Bx U U U (.tm U) (ts:=_) (by rfl)) U ?_);refine Au (Az 4 U U U C0 U U U) U ?_;refine Aa (Ae (AW.drawnZ 19 888888 (nthB [[],[0],[0,1],[],[],[4],[4,5],[4,5,6],[0,1,3,4,5,6,7],[],[],[10],[10,11],[10,11,12],[0,1,3,4,5,6,7,8,9,10,11,12,13],[],[0,1,3,4,5,6,7,8,9,10,11,12,13,14,15],[0,1,2,3,4,5,6,7,8,9,10,11,12,13,14,15,16],[]]) (by kernel_rfl) (by kernel_rfl) (by kernel_rfl) U ?_));refine DrawZ.pure U U U (fun ζ1 hp=>by exact B9 U fun σ' hs=>Bh U (.no U) (Ag hs U) (hs.tm U)) (fun _=>rfl) (fun _ _ _=>rfl) ?_;refine DrawZ.draw U U U (fun ζ1 hp σ' hs hv=>by exact Bj 700 (specl1Below _) U U (Ag hs U) (hs.tm U) (hs.res _ _ U) hv (.cons (.const U) (readDA_sup hs U) .nil) (fun _=>rfl) (fun _=>rfl)) (fun _ _ _ _ hq=>hq) ?_
 refine DrawZ.pure U U U (fun ζ1 hp=>by obtain⟨⟨_,_⟩,hz7⟩:=hp;(try dsimp only at hz7);exact B9 U fun σ' hs=>C5 U (.no U) (Ag hs U) (.const U) (hs.tm U) (fun _=>by omega)) (fun _=>rfl) (by intro ζ ζ' h;first|rfl|(simp only [h 1 U])) ?_;refine DrawZ.pure U U U (fun ζ1 hp=>by exact B9 U fun σ' hs=>Bh U (.no U) (Ag hs U) (hs.tm U)) (fun _=>rfl) (fun _ _ _=>rfl) ?_;refine DrawZ.pure U U U (fun ζ1 hp=>by exact B9 U fun σ' hs=>(by exact Bc U (.no U) (Ag hs U) (hs.tm U) Cu)) (fun _=>rfl) (fun _ _ _=>rfl) ?_;refine DrawZ.pure U U U (fun ζ1 hp=>by exact B9 U fun σ' hs=>(by exact Bl U (.no U) (Ag hs U) (hs.tm U) Dm U U)) (fun _=>rfl) (fun _ _ _=>rfl) ?_;refine DrawZ.pure U U U (fun ζ1 hp=>by exact B9 U fun σ' hs=>(by exact Cn U (.no U) (Ag hs U) (hs.tm U) (by exact .t) Tryz.underlying34)) (fun _=>rfl) (fun _ _ _=>rfl) ?_
 refine DrawZ.pure U U U (fun ζ1 hp=>by exact B9 U fun σ' hs=>R_max U (.no U) (Ag hs U) (.const U) (hs.tm U)) (fun _=>rfl) (fun _ _ _=>rfl) ?_;refine DrawZ.draw U U U (fun ζ1 hp σ' hs hv=>by obtain⟨⟨⟨⟨⟨⟨⟨_,_⟩,hz7⟩,_⟩,_⟩,_⟩,_⟩,_⟩:=hp;(try dsimp only at hz7);exact Bj 1400 (specl1Below _) U U (Ag hs U) (hs.tm U) (hs.res _ _ U) hv (.cons (hs.tm U) (readDA_sup hs U) .nil) (fun _=>rfl) (fun _=>rfl)) (by intro ζ ζ' h z hq;first|exact hq|(simp only [h 1 U] at hq ⊢;exact hq)) ?_;refine DrawZ.pure U U U (fun ζ1 hp=>by exact B9 U fun σ' hs=>Bh U (.no U) (Ag hs U) (hs.tm U)) (fun _=>rfl) (fun _ _ _=>rfl) ?_;refine DrawZ.pure U U U (fun ζ1 hp=>by exact B9 U fun σ' hs=>(by exact Bc U (.no U) (Ag hs U) (hs.tm U) Cu)) (fun _=>rfl) (fun _ _ _=>rfl) ?_;refine DrawZ.pure U U U (fun ζ1 hp=>by exact B9 U fun σ' hs=>(by exact Bl U (.no U) (Ag hs U) (hs.tm U) Dm U U)) (fun _=>rfl) (fun _ _ _=>rfl) ?_
 refine DrawZ.pure U U U (fun ζ1 hp=>by exact B9 U fun σ' hs=>(by exact Cn U (.no U) (Ag hs U) (hs.tm U) (by exact .t) Tryz.underlying34)) (fun _=>rfl) (fun _ _ _=>rfl) ?_;refine DrawZ.pure U U U (fun ζ1 hp=>by exact B9 U fun σ' hs=>R_max U (.no U) (Ag hs U) (.const U) (hs.tm U)) (fun _=>rfl) (fun _ _ _=>rfl) ?_;refine DrawZ.draw U U U (fun ζ1 hp σ' hs hv=>by obtain⟨⟨⟨⟨⟨⟨⟨⟨⟨⟨⟨⟨⟨_,_⟩,hz7⟩,_⟩,_⟩,_⟩,_⟩,_⟩,hz14⟩,_⟩,_⟩,_⟩,_⟩,_⟩:=hp;(try dsimp only at hz7);(try dsimp only at hz14);exact Bj 2000 (specl1Below _) U U (Ag hs U) (hs.tm U) (hs.res _ _ U) hv (.cons (hs.tm U) (readDA_sup hs U) .nil) (fun _=>rfl) (fun _=>rfl)) (by intro ζ ζ' h z hq;first|exact hq|(simp only [h 1 U,h 8 U] at hq ⊢;exact hq)) ?_;refine DrawZ.pure U U U (fun ζ1 hp=>by exact B9 U fun σ' hs=>Bh U (.no U) (Ag hs U) (hs.tm U)) (fun _=>rfl) (fun _ _ _=>rfl) ?_
 refine DrawZ.draw U U U (fun ζ1 hp σ' hs hv=>by obtain⟨⟨⟨⟨⟨⟨⟨⟨⟨⟨⟨⟨⟨⟨⟨_,_⟩,hz7⟩,_⟩,_⟩,_⟩,_⟩,_⟩,hz14⟩,_⟩,_⟩,_⟩,_⟩,_⟩,hz20⟩,_⟩:=hp;(try dsimp only at hz7);(try dsimp only at hz14);(try dsimp only at hz20);exact Bj 2200 (specl1Below _) U U (Ag hs U) (hs.tm U) (hs.res _ _ U) hv (.cons (.const U) (readDA_sup hs U) .nil) (fun _=>rfl) (fun _=>rfl)) (by intro ζ ζ' h z hq;first|exact hq|(simp only [h 1 U,h 8 U,h 14 U] at hq ⊢;exact hq)) ?_
 refine DrawZ.pure U U U (fun ζ1 hp=>by obtain⟨⟨⟨⟨⟨⟨⟨⟨⟨⟨⟨⟨⟨⟨⟨⟨⟨_,_⟩,hz7⟩,_⟩,_⟩,_⟩,_⟩,_⟩,_⟩,hz14⟩,_⟩,_⟩,_⟩,_⟩,_⟩,hz20⟩,_⟩,hz22⟩:=hp;(try dsimp only at hz7);(try dsimp only at hz14);(try dsimp only at hz20);(try dsimp only at hz22);exact B9 U fun σ' hs=>Bw (ps:=[(0,.tmp 8),(1,.tmp 14),(2,.tmp 20),(3,.tmp 22)]) U U (Ag hs U) C0 U U st101 (.cons (hs.tm U) U U fp101_0 (.cons (hs.tm U) U U fp101_1 (.cons (hs.tm U) U U fp101_2 (.cons (hs.tm U) U U fp101_3 .nil)))) U) (fun _=>rfl) (by intro ζ ζ' h;first|rfl|(simp only [h 1 U,h 8 U,h 14 U,h 16 U])) ?_;refine DrawZ.pure U U U (fun ζ1 hp=>by exact Loc.of1 U fun σ' hs hf=>Az 5 U U (Ag hs U) C0 U U hf) (fun _=>rfl) (fun _ _ _=>rfl) ?_;refine DrawZ.fin U (fun _=>rfl) (fun _=>rfl) ?_;intro ζ1 hp
 obtain⟨⟨⟨⟨⟨⟨⟨⟨⟨⟨⟨⟨⟨⟨⟨⟨⟨⟨⟨_,_⟩,hz7⟩,_⟩,_⟩,_⟩,_⟩,_⟩,_⟩,hz14⟩,_⟩,_⟩,_⟩,_⟩,_⟩,hz20⟩,_⟩,hz22⟩,_⟩,_⟩:=hp
 try dsimp only at hz7
 try dsimp only at hz14
 try dsimp only at hz20
 try dsimp only at hz22
 dsimp only [finSl,finRs,addsR,List.map_cons,List.map_nil]
 refine Bf (Av [0,1,3,4,5,23] [888888,4,5]) ?_;refine An Ba ?_;refine Aa (Ae (Af (Ab ?_)));refine Bi (Bj 2500 (specl1Below _) U U U (.tm U) U U (.cons (.const U) U .nil) (fun _=>rfl) (fun _=>rfl)) ?_
 rintro _ ⟨z25,hz25,rfl⟩
 try dsimp only at hz25
 refine Aa (AW.block (Af (Ck ?_)));refine Ah ?_;refine Aa (Al (.tm U) (fun h26=>?_) (fun h26=>?_))
 · try simp at h26
   refine Ad (Ab ?_);refine Bd (B8 (xs:=[.const (.int .i64 (0)),.const (.int .i64 (99)),.const (.int .i64 (100))]) 29 U U U (.cons (.const U) U U (.cons (.const U) U U (.cons (.const U) U U .nil))) Tryz.underlying34 in3 U U U U) U ?_;refine Bi (Bj 3000 (specl1PickInt [0,99,100] (by decide)) U U U (.tm U) U U (.cons (.tm U) U .nil) (fun _=>rfl) (fun _=>rfl)) ?_
   rintro _ ⟨z30,hz30,rfl⟩
   try dsimp only at hz30
   refine A8 Cx ?_;refine An ty3 ?_;refine Aa (Ae (Ar (Av [0,1,3,4,5,25] [888888,4,5,29]) ?_));refine Ad (Ai Ba ?_);refine An Ba ?_;refine Aa (Ap ?_);apply DRes.mk (x:=⟨z30,(ζ1 8),(ζ1 14),(ζ1 16)⟩) rfl
   case h=>
    refine Res.one U (.cell U U Ba U U .nil) U ?_
    rfl
   case hp=>exact trivial
 try simp at h26
 refine Af (Ck ?_);refine Ah ?_;refine Aa (Al (.tm U) (fun h32=>?_) (fun h32=>?_))
 · try simp at h32
   refine Ar (Av [0,1,3,4,5,25] [888888,4,5]) ?_;refine Ad (Ab ?_);refine Bd (B8 (xs:=[.const (.int .i64 (-1)),.const (.int .i64 (5))]) 35 U U U (.cons (.const U) U U (.cons (.const U) U U .nil)) Tryz.underlying34 in3 U U U U) U ?_;refine Bi (Bj 3600 (specl1PickInt [-1,5] (by decide)) U U U (.tm U) U U (.cons (.tm U) U .nil) (fun _=>rfl) (fun _=>rfl)) ?_
   rintro _ ⟨z36,hz36,rfl⟩
   try dsimp only at hz36
   refine A8 fl101_2 ?_;refine An ty3 ?_;refine Aa (Af (Ai Ba ?_));refine An Ba ?_;refine Aa (Ap ?_);apply DRes.mk (x:=⟨1+(ζ1 1),(ζ1 8),z36,(ζ1 16)⟩) rfl
   case h=>
    refine Res.one U (.cell U U Ba U U .nil) U ?_
    rfl
   case hp=>exact trivial
 try simp at h32
 refine Ae (Ar (Av [0,1,3,4,5,25] [888888,4,5]) ?_);refine Ad (Ck ?_);refine Ah ?_;refine Aa (Al (.tm U) (fun h38=>?_) (fun h38=>?_))
 · try simp at h38
   refine Ad (Ab ?_);refine Bd (B8 (xs:=[.const (.int .i64 (-1)),.const (.int .i64 (3))]) 41 U U U (.cons (.const U) U U (.cons (.const U) U U .nil)) Tryz.underlying34 in3 U U U U) U ?_;refine Bi (Bj 4200 (specl1PickInt [-1,3] (by decide)) U U U (.tm U) U U (.cons (.tm U) U .nil) (fun _=>rfl) (fun _=>rfl)) ?_
   rintro _ ⟨z42,hz42,rfl⟩
   try dsimp only at hz42
   refine A8 fl101_3 ?_;refine An ty3 ?_;refine Aa (Ae (Ar (Av [0,1,3,4,5,25] [888888,4,5,41]) ?_));refine Ad (Ai Ba ?_);refine An Ba ?_;refine Aa (Ap ?_);apply DRes.mk (x:=⟨1+(ζ1 1),(ζ1 8),(ζ1 14),z42⟩) rfl
   case h=>
    refine Res.one U (.cell U U Ba U U .nil) U ?_
    rfl
   case hp=>exact trivial
 try simp at h38
 refine Am (Af (Ai Ba ?_));refine An Ba ?_;refine Aa (Ap ?_);apply DRes.mk (x:=⟨1+(ζ1 1),(ζ1 8),(ζ1 14),(ζ1 16)⟩) rfl
 case h=>
  refine Res.one U (.cell U U Ba U U .nil) U ?_
  rfl
 case hp=>exact trivial
theorem specl1Text (m:Int) (hm:0≤m∧m≤1000):FnD Tryz.prog 123 [.one (.v (.int .i64 m))] (fun s:ByteArray=>(s.size:Int)≤m) (fun s=>.a (.one (.v (.string s)))):=by
 refine FnD.walk Tryz.func123 U (by kernel_rfl) Tryz.ntmps123 U (fun g=>rfl) fun w0 g=>?_
 refine Af (Aj ?_);refine Aa (Af (Au (Df 9 U U U Tryz.underlying22 ty5 U) U ?_));refine Ah ?_;refine Aa (Af (Ab ?_));refine Bi (Bj 1100 (specl1Below _) U U U (.tm U) U U (.cons (.const U) U .nil) (fun _=>rfl) (fun _=>rfl)) ?_
 rintro _ ⟨z11,hz11,rfl⟩
 try dsimp only at hz11
 refine Ah ?_;refine Aa (Ae (Af (Ab ?_)));refine Ab ?_;refine Bs ?_;refine Bi (Bj 1500 (specl1Below _) U U U (.tm U) U U (.cons (.tm U) U .nil) (fun _=>rfl) (fun _=>rfl)) ?_
 rintro _ ⟨z15,hz15,rfl⟩
 try dsimp only at hz15
 refine Ah ?_;refine Aa (AW.block ?_);refine Dn (fun (n:Int) (l:List Int)=>(n≤m-l.length∧(l.length:Int)≤m)∧True) (fun (n:Int) (l:List Int)=>⟨_,[(7,(true,.a (.one (.t (.v (.int .i64 n)))))),(6,(true,.a (.one (.t (.v (.int .i64 z11)))))),(5,(true,.a (.one (.rf 9)))),(0,_),(4,_)],[(9,.row 1 (byR l)),(888888,.cur g)]⟩) (fun (n:Int) (l:List Int)=>n.toNat) (z15) ([]) ⟨by simp;omega,Y⟩ Ay ?_
 rintro n l ⟨hk,he⟩
 refine Ae (Af (Ab ?_));refine Db ?_;refine Aa (Al (.tm U) (fun h17=>?_) (fun h17=>?_))
 · try simp at h17
   have hbl:(byR l).length=l.length:=by simp [byR]
   refine Am (Ae (AW.block (Af (Ab ?_))));refine Bi (Bj 2100 (specl1Byte) U U U (.tm U) U U .nil (fun _=>rfl) (fun _=>rfl)) ?_
   rintro _ ⟨z21,hz21,rfl⟩
   try dsimp only at hz21
   refine Ah ?_;refine Aa (Ae (Af (Ab ?_)));refine Ck ?_;refine Aa (Al (.tm U) (fun h23=>?_) (fun h23=>?_))
   · try simp at h23
     refine Ar (Av [0,4,5,6,7,8] [9,888888]) ?_;refine Ad (Ab ?_);refine Ac (R_rem U (.no U) U (.tm U) (.const U) (fun _=>by omega)) U ?_;refine Ah ?_;refine Aa (Ae (Af (Ab ?_)));refine Ck ?_;refine Aa (Al (.tm U) (fun h27=>?_) (fun h27=>?_))
     · try simp at h27
       refine Ad (Ab ?_);refine Ac (R_rem U (.no U) U (.tm U) (.const U) (fun _=>by omega)) U ?_;refine Ac (C5 U (.no U) U (.const U) (.tm U) (fun _=>by omega)) U ?_;refine Ah ?_;refine Aa (Ar (Av [0,4,5,6,7,8] [9,888888]) ?_);refine Ad (Ab ?_);refine Ab ?_;refine Ac (De U (.no U) U (.tm U) (by rw [Tryz.underlying3];rfl) Tryz.underlying5 (fun _=>rfl)) U ?_;refine Bd (B8 (xs:=[.tmp 33]) 34 U U U (.cons (.tm U) U U .nil) Tryz.underlying22 in5 U U U U) U ?_;refine Ce (Cc U U U (.tm U) U (.tm U) (by exact .rf U) (by rfl) Tryz.underlying22 in5 U (by omega) (by omega)) U ?_;refine Bf (Av [0,4,5,6,7,8,35] [9,888888,34]) ?_;refine Ah ?_;refine Aa (Ad (Ab ?_));refine Cy ?_;refine Ah ?_;refine Aa ?_
       repeat (with_reducible refine A7 ?_)
       refine Round2.next (n-1) (l++[IntKind.wrap .u8 (97+z21%2%4)]) ⟨by (try simp at h17);simp;omega,Y⟩ (by (try simp at h17);omega) (A6 rfl ⟨rfl,rfl,rfl,rfl,rfl,Y⟩ ⟨(by refine congrArg (fun r=>some (R.row 1 r)) ?_;simp [byR];rfl),(by rfl),Y⟩)
     try simp at h27
     refine Am (Ad (Ab ?_));refine Ab ?_;refine Ac (De U (.no U) U (.tm U) (by rw [Tryz.underlying3];rfl) Tryz.underlying5 (fun _=>rfl)) U ?_;refine Bd (B8 (xs:=[.tmp 33]) 34 U U U (.cons (.tm U) U U .nil) Tryz.underlying22 in5 U U U U) U ?_;refine Ce (Cc U U U (.tm U) U (.tm U) (by exact .rf U) (by rfl) Tryz.underlying22 in5 U (by (simp [chunk];omega)) (by (unfold maxLen;simp [chunk];omega))) U ?_;refine Bf (Av [0,4,5,6,7,8,27,35] [9,888888,34]) ?_;refine Ah ?_;refine Aa (Ad (Ab ?_));refine Cy ?_;refine Ah ?_;refine Aa ?_
     repeat (with_reducible refine A7 ?_)
     refine Round2.next (n-1) (l++[IntKind.wrap .u8 (z21%2)]) ⟨by (try simp at h17);simp;omega,Y⟩ (by (try simp at h17);omega) (A6 rfl ⟨rfl,rfl,rfl,rfl,rfl,Y⟩ ⟨(by refine congrArg (fun r=>some (R.row 1 r)) ?_;simp [byR];rfl),(by rfl),Y⟩)
   try simp at h23
   refine Am (Ae (Ae (Ar (Av [0,4,5,6,7,8] [9,888888]) ?_)));refine Ad (Ab ?_);refine Ck ?_;refine Aa (Al (.tm U) (fun h27=>?_) (fun h27=>?_))
   · try simp at h27
     refine Ad (Ab ?_);refine Ac (R_rem U (.no U) U (.tm U) (.const U) (fun _=>by omega)) U ?_;refine Ac (C5 U (.no U) U (.const U) (.tm U) (fun _=>by omega)) U ?_;refine Ah ?_;refine Aa (Ad (Ab ?_));refine Ab ?_;refine Ac (De U (.no U) U (.tm U) (by rw [Tryz.underlying3];rfl) Tryz.underlying5 (fun _=>rfl)) U ?_;refine Bd (B8 (xs:=[.tmp 33]) 34 U U U (.cons (.tm U) U U .nil) Tryz.underlying22 in5 U U U U) U ?_;refine Ce (Cc U U U (.tm U) U (.tm U) (by exact .rf U) (by rfl) Tryz.underlying22 in5 U (by (simp [chunk];omega)) (by (unfold maxLen;simp [chunk];omega))) U ?_;refine Bf (Av [0,4,5,6,7,8,27,35] [9,888888,34]) ?_;refine Ah ?_;refine Aa (Ad (Ab ?_));refine Cy ?_;refine Ah ?_;refine Aa ?_
     repeat (with_reducible refine A7 ?_)
     refine Round2.next (n-1) (l++[IntKind.wrap .u8 (97+z21%4)]) ⟨by (try simp at h17);simp;omega,Y⟩ (by (try simp at h17);omega) (A6 rfl ⟨rfl,rfl,rfl,rfl,rfl,Y⟩ ⟨(by refine congrArg (fun r=>some (R.row 1 r)) ?_;simp [byR];rfl),(by rfl),Y⟩)
   try simp at h27
   refine Am (Ad (Ab ?_));refine Ab ?_;refine Ac (De U (.no U) U (.tm U) (by rw [Tryz.underlying3];rfl) Tryz.underlying5 (fun _=>rfl)) U ?_;refine Bd (B8 (xs:=[.tmp 33]) 34 U U U (.cons (.tm U) U U .nil) Tryz.underlying22 in5 U U U U) U ?_;refine Ce (Cc U U U (.tm U) U (.tm U) (by exact .rf U) (by rfl) Tryz.underlying22 in5 U (by (simp [chunk];omega)) (by (unfold maxLen;simp [chunk];omega))) U ?_;refine Bf (Av [0,4,5,6,7,8,27,35] [9,888888,34]) ?_;refine Ah ?_;refine Aa (Ad (Ab ?_));refine Cy ?_;refine Ah ?_;refine Aa ?_
   repeat (with_reducible refine A7 ?_)
   refine Round2.next (n-1) (l++[IntKind.wrap .u8 z21]) ⟨by (try simp at h17);simp;omega,Y⟩ (by (try simp at h17);omega) (A6 rfl ⟨rfl,rfl,rfl,rfl,rfl,Y⟩ ⟨(by refine congrArg (fun r=>some (R.row 1 r)) ?_;simp [byR];rfl),(by rfl),Y⟩)
 try simp at h17
 refine Bt (Af (Ab ?_));refine Ac (R_rowStr (l) U (.no U) U (.tm U) U Tryz.underlying22 Tryz.underlying5 Tryz.underlying9) U ?_;refine Ah ?_;refine Aa (Ap ?_);apply DRes.mk (x:=strOfNums l) rfl
 case h=>
  refine Res.one U (.tmp U .nil) U ?_
  rfl
 case hp=>exact by rw [strOfNums_size];exact hk.2
end Go.Proofs.YtdhojcaoljhbiaaGreatDoor
