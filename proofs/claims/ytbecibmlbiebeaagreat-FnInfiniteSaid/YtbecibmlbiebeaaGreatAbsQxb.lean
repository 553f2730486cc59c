import Derived.Test.YtbecibmlbiebeaaGreatB05xb
import Derived.Test.YtbecibmlbiebeaaGreatB19xb
import Derived.Laws.Cover3
set_option linter.unusedVariables false
set_option linter.unusedSimpArgs false
namespace Go.Q
open Go.RowKit
section
variable {P:Program}
def EndQ (σt:St):Exit→St→Prop
 | .normal,σ=>Le σ σt
 | _,_=>False
theorem EndQ.run {ops:Array Oper} {o:Oper} {σ σt:St} (h:∀ w0,AWl P w0 ops (EndQ σt) [o] σ) {w0:Base} {a:Act} {w:World} (hr:Rel w0 σ a w) (K:Act→World→Prop) (Q:Exit→Act→World→Prop) (hK:∀ a' w',Rel w0 σt a' w'→K a' w') :
 if Region.wanted o (yielded ops a.tmps) then o.wp P a w K Q else K (a.put o.dst undef) w:=by
 have h1:=h w0 a w hr
 unfold wpList at h1
 have hN:∀ a' w',wpList P ops (lift w0 (EndQ σt)) [] a' w'→K a' w':=fun a' w' h=>by
  obtain⟨σ',h2,h3⟩:=h
  exact hK a' w' (h2 w0 a' w' h3)
 have hF:∀ e a' w',e≠Exit.normal→lift w0 (EndQ σt) e a' w'→False:=fun e a' w' he h=>by
  obtain⟨σ',h2,h3⟩:=h
  cases e<;>first|exact he rfl|exact h2
 have hL:LetsOut (lift w0 (EndQ σt))→False:=fun ⟨a',w',h⟩=>hF _ a' w' (by simp) h
 split
 · rename_i hw
   rw [if_pos hw] at h1
   rcases h1 with h1|⟨_,h1⟩
   · unfold Oper.wp at *
     generalize (execOp a.eval o).run P w=r at *
     cases r with
     | ok n w'=>
      cases n<;>simp only [Oper.upon] at h1 ⊢<;>
       first
        | exact hN _ _ h1
        | exact Calls.mono h1 (fun e w'' he=>by cases e<;>first|exact hN _ _ he|exact (hL he).elim|exact (hF _ _ _ (by simp) he).elim)
        | exact Rows.mono h1 (fun _ _ he=>hN _ _ he)
     | halt x w'=>cases x<;>simp only [Oper.upon] at h1 ⊢<;>first|exact h1.elim|exact (hF _ _ _ (by simp) h1).elim
   exact (hL h1).elim
 rename_i hw
 rw [if_neg hw] at h1
 exact hN _ _ h1
theorem An {P:Program} {w0:Base} {ops:Array Oper} {σ s:St} {sl:List (Nat×(Bool×S))} {rs:List (Nat×R)} (ks js:List Nat) (h:SelL σ.slots ks sl:=by (repeat (apply SelL.cons;exact rfl));exact .nil) (h':SelL σ.res js rs:=by (repeat (apply SelL.cons;exact rfl));exact .nil) (e:s=⟨σ.n,sl,rs⟩:=by exact rfl):AWl P w0 ops (EndQ s) [] σ:=Aa (by subst e;exact Av ks js h h')
def dagB (l:List Oper) (N:Nat) (ms:List (List Nat)) (es:List (Nat×Nat×Nat)) (k:Nat):Bool:=
 (List.range ms.length).all (fun a=>match ms[a]? with
  | none=>false
  | some m=>((List.range N).all (fun i=>memN m i||(match l[i]? with
   | none=>false
   | some o=>!((deps o).all (memN m))||es.any (fun e=>Nat.beq e.1 a&&Nat.beq e.2.1 i&&(match ms[e.2.2]? with
    | none=>false
    | some m'=>(List.range N).all fun j=>memN m' j == (Nat.beq j i||memN m j))))))&&
   (Nat.beq a k||(List.range N).any (fun i=>!(memN m i))))&&
 (match ms with|[]::_=>true|_=>false)
theorem AW.dag {w0:Base} {Q:Exit→St→Prop} {σ:St} {id:Nat} {l:List Oper} (N k:Nat) (ms:List (List Nat)) (es:List (Nat×Nat×Nat)) (st:Nat→St) (hm:P.follows .mixedOrders=true) (hB:planC l.toArray N=true) (hP:dagB l N ms es k=true)
 (hes:∀ e∈es,∀ o,l[e.2.1]?=some o→∀ w0,AWl P w0 l.toArray (EndQ (st e.2.2)) [o] (st e.1)) (hσ:Le σ (st 0)) (hfin:AWl P w0 l.toArray Q (l.drop N) (st k)):AW P w0 (.region id l.toArray true) Q σ:=by
 intro a w hr;refine wp_region_any hm ?_
 simp only [dagB,Bool.and_eq_true] at hP
 obtain⟨hP,hms⟩:=hP
 have hms0:ms[0]?=some []:=by
  match ms,hms with
  | []::_,_=>rfl
 have hlN:N≤l.length:=by
  have hB':=hB
  simp only [planC,Bool.and_eq_true,decide_eq_true_eq] at hB'
  simpa using hB'.1.1.1
 have hdep:∀ i o,i<N→l[i]?=some o→∀ j∈deps o,j<N:=fun i o hi ho j hj=>by
  have hB':=hB
  simp only [planC,Bool.and_eq_true,decide_eq_true_eq] at hB'
  have:=List.all_eq_true.1 hB'.1.1.2 i (List.mem_range.2 hi)
  have ho':l.toArray[i]?=some o:=by simpa using ho
  rw [ho'] at this
  have:=List.all_eq_true.1 this j hj
  simp only [decide_eq_true_eq] at this
  omega
 have hat:∀ (b:Nat) (m:List Nat),ms[b]?=some m→((∀ i,i<N→memN m i=false→∀ o,l[i]?=some o→(∀ j∈deps o,memN m j=true)→∃ e∈es,e.1=b∧e.2.1=i∧∃ m',ms[e.2.2]?=some m'∧∀ j,j<N→memN m' j=(Nat.beq j i||memN m j))∧((∀ i,i<N→memN m i=true)→b=k)):=by
  intro b m hb
  have:=List.all_eq_true.1 hP b (List.mem_range.2 (List.getElem?_eq_some_iff.1 hb).1)
  rw [hb] at this
  simp only [Bool.and_eq_true] at this
  refine⟨fun i hi hu o ho hd=>?_,fun hall=>?_⟩
  · have:=List.all_eq_true.1 this.1 i (List.mem_range.2 hi)
    rw [hu,Bool.false_or,ho] at this
    simp only [Bool.or_eq_true,Bool.not_eq_true'] at this
    rcases this with h|h
    · rw [List.all_eq_true.2 hd] at h;cases h
    obtain⟨e,he,h⟩:=List.any_eq_true.1 h
    simp only [Bool.and_eq_true] at h
    obtain⟨⟨h1,h2⟩,h3⟩:=h
    refine⟨e,he,Nat.eq_of_beq_eq_true h1,Nat.eq_of_beq_eq_true h2,?_⟩
    split at h3
    · cases h3
    rename_i m' hm'
    exact⟨m',hm',fun j hj=>by simpa using List.all_eq_true.1 h3 j (List.mem_range.2 hj)⟩
  have h2:=this.2
  simp only [Bool.or_eq_true] at h2
  rcases h2 with h|h
  · exact Nat.eq_of_beq_eq_true h
  obtain⟨i,hi,h⟩:=List.any_eq_true.1 h
  rw [hall i (List.mem_range.1 hi)] at h;cases h
 have H:=wpAny_inv (P:=P) (Q:=lift w0 Q) (J:=fun listed a w=>∃ b m,ms[b]?=some m∧(∀ j,j<N→memN m j=listed.getD j false)∧Rel w0 (st b) a w) hB (fun i o hi ho listed a w inv hd hu hJ=>?_) (fun listed a w hall hJ=>?_)
  (unl N (Array.replicate l.toArray.size false)) (Array.replicate l.toArray.size false) a { w with drawn:=w.drawn+1 } rfl
  ⟨by simp,fun j oj _ hl=>(by rw [getD_replicate_false] at hl;cases hl),fun t _ ht=>getD_in (by simpa using ht) (getD_replicate_false _ _)⟩ ?_
 · have hu:unl N (Array.replicate l.toArray.size false)=N:=by
    unfold unl
    rw [List.countP_eq_length.2 (fun j _=>by rw [getD_replicate_false];rfl),List.length_range]
   rw [hu,show N+(l.toArray.size-N)=l.toArray.size by simp;omega] at H
   exact H
 · obtain⟨b,m,hb,hmj,hr⟩:=hJ
   have ho0:l[i]?=some o:=by simpa using ho
   obtain⟨e,he,rfl,rfl,m',hm',hj'⟩:=(hat b m hb).1 i hi (by rw [hmj i hi];exact hu) o ho0 fun j hj=>by rw [hmj j (hdep i o hi ho0 j hj)];exact hd j hj
   intro K Q' hK;refine EndQ.run (hes e he o ho0) hr K Q' fun a' w' hr'=>hK a' w' ⟨e.2.2,m',hm',fun j hj=>?_,hr'⟩
   rw [hj' j hj,hmj j hj]
   by_cases ej:j=e.2.1
   · subst ej
     have:e.2.1<listed.size:=by rw [inv.size];simp;omega
     simp [this,Nat.beq_refl]
   rw [beq_false ej,Bool.false_or,getD_set_ne false (fun h=>ej h.symm)]
 · obtain⟨b,m,hb,hmj,hr⟩:=hJ
   have:=(hat b m hb).2 fun i hi=>by rw [hmj i hi];exact hall i hi
   subst this;exact hfin a w hr
 refine⟨0,[],hms0,fun j _=>by rw [getD_replicate_false];rfl,?_⟩
 obtain⟨I,hI⟩:=hσ w0 a w hr
 exact⟨I,hI.later (Ext.refl w).drawn⟩
structure Dag (P:Program) (l:List Oper) (acc:List (Nat×St)) (es:List (Nat×Nat×Nat)) (Fin:(Nat→St)→Prop):Prop where
 pf:∃ st:Nat→St,(∀ k σ,look acc k=some σ→st k=σ)∧(∀ e∈es,∀ o,l[e.2.1]?=some o→∀ w0,AWl P w0 l.toArray (EndQ (st e.2.2)) [o] (st e.1))∧Fin st
variable {l:List Oper} {acc:List (Nat×St)} {es:List (Nat×Nat×Nat)} {Fin:(Nat→St)→Prop}
theorem Ay {a i b:Nat} {σ σ':St} {o:Oper} (ha:look acc a=some σ) (ho:l[i]?=some o) (hb:look acc b=none) (hE:∀ w0,AWl P w0 l.toArray (EndQ σ') [o] σ) (h:Dag P l ((b,σ')::acc) es Fin):Dag P l acc ((a,i,b)::es) Fin:=by
 obtain⟨st,h1,h2,h3⟩:=h.pf
 have hne:b≠a:=fun e=>by subst e;rw [hb] at ha;cases ha
 have h1':∀ k σ,look acc k=some σ→st k=σ:=fun k σ hk=>h1 k σ (by
  rw [look_cons,if_neg (fun e=>?_)]
  · exact hk
  subst e;rw [hb] at hk;cases hk)
 refine⟨st,h1',fun e he o' ho' w0=>?_,h3⟩
 rcases List.mem_cons.1 he with rfl|he
 · simp only at ho' ⊢
   rw [ho] at ho';cases ho'
   rw [h1' a σ ha,h1 b σ' (by rw [look_cons,if_pos rfl])]
   exact hE w0
 exact h2 e he o' ho' w0
theorem A3 {a i b:Nat} {σ σ':St} {o:Oper} (ha:look acc a=some σ) (ho:l[i]?=some o) (hb:look acc b=some σ') (hE:∀ w0,AWl P w0 l.toArray (EndQ σ') [o] σ) (h:Dag P l acc es Fin):Dag P l acc ((a,i,b)::es) Fin:=by
 obtain⟨st,h1,h2,h3⟩:=h.pf
 refine⟨st,h1,fun e he o' ho' w0=>?_,h3⟩
 rcases List.mem_cons.1 he with rfl|he
 · simp only at ho' ⊢
   rw [ho] at ho';cases ho'
   rw [h1 a σ ha,h1 b σ' hb]
   exact hE w0
 exact h2 e he o' ho' w0
theorem Dag.fin {w0:Base} {Q:Exit→St→Prop} {N k:Nat} {σ:St} (hk:look acc k=some σ) (h:AWl P w0 l.toArray Q (l.drop N) σ):Dag P l acc [] (fun st=>AWl P w0 l.toArray Q (l.drop N) (st k)):=
 ⟨fun i=>(look acc i).getD ⟨0,[],[]⟩,fun i σ' hi=>by simp [hi],fun e he=>(by cases he),by simpa [hk] using h⟩
theorem AW.dagn {w0:Base} {Q:Exit→St→Prop} {σ:St} {id:Nat} (N k:Nat) (ms:List (List Nat)) (es:List (Nat×Nat×Nat)) (hm:P.follows .mixedOrders=true) (hB:planC l.toArray N=true) (hP:dagB l N ms es k=true)
 (h:Dag P l [(0,σ)] es (fun st=>AWl P w0 l.toArray Q (l.drop N) (st k))):AW P w0 (.region id l.toArray true) Q σ:=by
 obtain⟨st,h1,h2,h3⟩:=h.pf
 exact AW.dag N k ms es st hm hB hP h2 (by rw [h1 0 σ U];exact Le.refl _) h3
end
end Go.Q
set_option maxHeartbeats 1000000
set_option maxRecDepth 100000
namespace Go.Q
open Go.D
end Go.Q
namespace Go.Proofs.YtbecibmlbiebeaaGreat
open Go.RowKit Go.Q Go.D
theorem implcopyInts (l:List Int) (hz:l.length≤1073741824):FnT Tryz.prog 216 [.one (.sl 1 (l.map cInt))] (.a (.one (.sl 1 (l.map cInt)))):=by
 refine A7 Tryz.func216 U (by kernel_rfl) Tryz.ntmps216 U fun hlen w0=>?_
 try simp at hlen
 refine Af (Ak ?_);refine Cb (i:=2) 20001 1 U U ?_;refine Aa (Af (A6 (Cu 3 U U U Tryz.underlying40 ty3 U) U ?_));refine Ab ?_;refine Bl (Bw U U U (.tm U) U (.tm U) (by exact .t) (by exact isV_map (fun _=>rfl) _) Tryz.underlying40 in3 U (by (simp [chunk];omega)) (by (unfold maxLen;simp [chunk];omega))) U ?_;refine Bq (Av [0,2,5] [20001,3]) ?_;refine Ag ?_;refine Aa (Am (Res.one U (.tmp U .nil) U ?_))
 rfl
end Go.Proofs.YtbecibmlbiebeaaGreat
namespace Go.Q
open Go.RowKit
section
variable {P:Program} {ops:Array Oper} {o:Oper} {σ:St} {q:Bool}
theorem Cs_td {b:Bool} {w:World}:∀ {ts:List T} {cs:List Value} (n:Nat),Cs b w ts cs []→Cs b w (ts.take n) (cs.take n) []∧Cs b w (ts.drop n) (cs.drop n) []
 | ts,cs,0,h=>by simpa [Cs] using h
 | [],cs,n+1,h=>by
  simp only [Cs] at h
  obtain⟨rfl,_⟩:=h
  simp [Cs]
 | t::ts,cs,n+1,h=>by
  simp only [Cs] at h
  obtain⟨c,cr,G1,G2,rfl,h2,h3,h4⟩:=h
  obtain⟨rfl,rfl⟩:=List.append_eq_nil_iff.1 h4.symm
  obtain⟨g1,g2⟩:=Cs_td n h3
  rw [List.take_succ_cons,List.take_succ_cons,List.drop_succ_cons,List.drop_succ_cons]
  refine⟨?_,g2⟩
  simp only [Cs]
  exact⟨c,_,[],[],rfl,h2,g1,rfl⟩
theorem flatten_take_k {α:Type} {k:Nat}:∀ {rows:List (List α)} (m:Nat),(∀ r∈rows,r.length=k)→(rows.take m).flatten=rows.flatten.take (m*k)∧(rows.drop m).flatten=rows.flatten.drop (m*k)
 | rows,0,_=>by simp
 | [],m+1,_=>by simp
 | r::rows,m+1,h=>by
  have hr:=h r (by simp)
  obtain⟨g1,g2⟩:=flatten_take_k m fun r' hr'=>h r' (List.mem_cons_of_mem r hr')
  rw [List.take_succ_cons,List.drop_succ_cons,List.flatten_cons,List.flatten_cons,g1,g2,Nat.succ_mul]
  constructor
  · rw [List.take_append,hr,List.take_of_length_le (l:=r) (by omega)];congr 2;omega
  rw [List.drop_append,hr,@List.drop_eq_nil_of_le _ r _ (by omega),List.nil_append];congr 1;omega
theorem isV_rep {r:List T} (n:Nat) (h:r.all T.isV=true):(List.replicate n r).flatten.all T.isV=true:=by
 rw [List.all_eq_true]
 intro x hx
 rw [List.mem_flatten] at hx
 obtain⟨l,hl,hx⟩:=hx
 rw [(List.mem_replicate.1 hl).2] at hx
 exact List.all_eq_true.1 h x hx
theorem R_copy {id k j c:Nat} {t t' e:TypeId} {x y:Operand} {A2:A} {ag:Bool} {rows rows2:List (List T)} (ho:o.op=.call { callee:=.builtin .copy,args:=#[x,y],argTypes:=#[t,t'] }) (hg:o.guard=none) (hd:o.dst.all (fun d=>Nat.blt d σ.n)=true)
 (hx:Get σ true x (.one (.tl id k j))) (hs:look σ.res id=some (.row k rows)) (hy:Get σ true y A2) (hq:Sq σ A2 k rows2) (hv1:rows.flatten.all T.isV=true) (hv2:rows2.flatten.all T.isV=true) (hu:P.underlying t=some (.slice e)) (hk:tyB P e ag k=true) (hc:c=min rows2.length (rows.length-j)) :
 Op1 P ops o σ ((σ.upd id (.row k (rows.take j++rows2.take c++rows.drop (j+c)))).put o.dst (true,.a (.one (.t (.v (.int .i64 c)))))):=
 .eff hg fun w0 a w ⟨I,hr⟩=>by
  obtain⟨a0,a',N,M,h1,h2,h3,h4,h5⟩:VE I w (.tl id k j) (a.eval x):=hx.va hr rfl
  have hC:C true w (.sl k rows) (I.hd id) (I.F id):=hr.res id _ hs
  have hC0:=hC
  have own:=hr.own id _ hs
  rw [h1] at hC
  obtain⟨e1,e2,e3⟩:=hC.hdr
  obtain⟨F2,hC2⟩:=hq.val hr (hy.va hr rfl)
  generalize hev:a.eval y=yv at hC2
  have hC2':=hC2
  simp only [C] at hC2'
  obtain⟨a2,m,cc,rfl,g2,g3,g4,g5⟩:=hC2'
  rw [g2,e1] at hc
  by_cases hc0:c=0
  · have hrun:(Builtin.copy_ #[t,t'] o.type #[a.eval x,.slice a2 m cc]).run P w=.ok (.int .i64 (0:Nat)) w:=by
     have hmin:Nat.min m (N-j)=0:=by rw [←hc0,hc]
     have hf:∀ w:World,(Builtin.firstCells k 0 (.slice a2 m cc)).run P w=.ok #[] w:=by
      intro w;cases a2<;>simp [Builtin.firstCells,loadCells,loadCellsFrom]
     rw [h2]
     cases a'<;>simp [Builtin.copy_,run_underlying hu,tyB_size hk,Builtin.lenOf,hmin,hf,storeCells,goInt]
    have er:rows.take j++rows2.take c++rows.drop (j+c)=rows:=by rw [hc0];simp
    rw [er,hc0]
    have hR:=hr.upd (G:=I.F id) (r:=.row k rows) hs (Chg.refl _ _) ⟨own.1,fun b hb=>⟨(own.2 b hb).1,(hr.lt id b hb).1,(own.2 b hb).2,.inl hb⟩⟩ (by show C true _ _ _ _;simpa [Ip.set] using hC0)
    exact⟨.int .i64 (0:Nat),w,by simp [execOp,ho,resolve,invoke,builtin,hev,hrun],_,hR.put hd (VS_v _)⟩
  have hjN:j<N:=by omega
  obtain⟨g',rfl,rfl⟩:=h5 (by omega)
  rcases hC.blk with ⟨q1,_⟩|⟨g,G,cur,e',q1,q2,q3,q4,q5⟩
  · omega
  cases q1
  rcases g5 with ⟨g5,_⟩|⟨b2,off2,G2,rfl,rfl,g6,_,g8⟩
  · omega
  obtain⟨r1,news,r2,r3,r4⟩:=g8.flat
  obtain⟨r2',_⟩:=Cs_flat (o':=true) (w':=w) hv2 r2
  rw [g2] at r3
  obtain⟨s1,xs,s2,s3,s4⟩:=q5.flat
  simp only [Nat.zero_add] at s4
  have hG:G=[]:=(Cs_flat (o':=true) (w':=w) hv1 s2).2
  subst hG
  rw [e1] at s3
  have hcm:c≤m:=by omega
  have hcN:j+c≤N:=by omega
  have hjk:j*k+c*k=(j+c)*k:=by rw [←Nat.add_mul]
  have hle1:c*k≤m*k:=Nat.mul_le_mul_right _ hcm
  have hle2:(j+c)*k≤N*k:=Nat.mul_le_mul_right _ hcN
  have hNM:N*k≤M*k:=Nat.mul_le_mul_right _ e2
  have hnl:(news.take (c*k)).length=c*k:=by rw [List.length_take,r3];omega
  have hnews:∀ p u,(news.take (c*k))[p]?=some u→w.cell? ((⟨b2,off2,none⟩:Addr).add p)=some u:=fun p u hp=>by
   rw [List.getElem?_take] at hp
   split at hp
   · rw [Addr.add_lit];exact r4 p u hp
   cases hp
  have hone:∀ u∈news.take (c*k),u.oneCell'=true:=fun u hu=>r2.cell1' u (List.mem_of_mem_take hu)
  have hf:=run_firstCells_some (P:=P) w k c ⟨b2,off2,none⟩ m cc (news.take (c*k)) hnl hnews
  have hst:=run_storeCells_at P g' (j*k) e' (news.take (c*k)) 0 cur w q3 (by rw [hnl,q4];omega) hone
  simp only [Nat.add_zero] at hst
  have hrun:(Builtin.copy_ #[t,t'] o.type #[a.eval x,.slice (some ⟨b2,off2,none⟩) m cc]).run P w=.ok (.int .i64 c) (w.setRow g' (cur.toList.take (j*k)++news.take (c*k)++cur.toList.drop (j*k+(news.take (c*k)).length)).toArray):=by
   have hmin:Nat.min m (N-j)=c:=by rw [hc]
   rw [h2]
   simp [Builtin.copy_,run_underlying hu,tyB_size hk,Builtin.lenOf,hmin,hf,hst,goInt]
  rw [hnl,hjk] at hrun
  generalize harr:(cur.toList.take (j*k)++news.take (c*k)++cur.toList.drop ((j+c)*k)).toArray=arr at hrun
  have hgn:(w.setRow g' arr).heap[g']?=some (.cells arr e' (0,0)):=setRow_heap w g' cur _ e' _ q3
  have hcl:cur.toList.length=M*k:=by rw [←q4];rfl
  have hsz:arr.size=M*k:=by
   rw [←harr]
   simp only [List.size_toArray,List.length_append,hnl,List.length_take,List.length_drop,hcl] at *
   omega
  have hch:Chg w (w.setRow g' arr) (I.F id):=⟨rfl,rfl,rfl,by simp [World.setRow],fun b _ hb=>setRow_other w g' b _ (fun e=>hb (by rw [q2,e];simp))⟩
  rw [q2] at own
  have hxs:cur.toList.take (N*k)=xs:=by
   apply List.ext_getElem?;intro p
   by_cases hp:p<xs.length
   · have:=s4 p _ (List.getElem?_eq_getElem hp)
     simp only [World.cell?,q3] at this
     rw [List.getElem?_take,if_pos (by omega),List.getElem?_eq_getElem hp]
     simpa using this
   rw [List.getElem?_eq_none (by simp;omega),List.getElem?_eq_none (by omega)]
  have hcur:cur.toList=xs++cur.toList.drop (N*k):=by rw [←hxs,List.take_append_drop]
  have ht:cur.toList.take (j*k)=xs.take (j*k):=by
   rw [hcur,List.take_append,show j*k-xs.length=0 by rw [s3];omega];simp
  have hdr:cur.toList.drop ((j+c)*k)=xs.drop ((j+c)*k)++cur.toList.drop (N*k):=by
   conv=>lhs;rw [hcur]
   rw [List.drop_append,show (j+c)*k-xs.length=0 by rw [s3];omega,List.drop_zero]
  have harr2:arr.toList=(xs.take (j*k)++news.take (c*k)++xs.drop ((j+c)*k))++cur.toList.drop (N*k):=by
   rw [←harr,ht,hdr];simp
  have hrows:∀ r∈rows,r.length=k:=s1
  have hnl2:(rows.take j++rows2.take c++rows.drop (j+c)).length=N:=by simp;omega
  have hR:=hr.upd (G:=[g']) (r:=.row k (rows.take j++rows2.take c++rows.drop (j+c))) hs hch ⟨by simp,fun b hb=>by
   obtain⟨o1,o2⟩:=own.2 b hb
   refine⟨o1,Nat.lt_of_lt_of_le (hr.lt id b (by rw [q2];exact hb)).1 hch.size,?_,.inl (by rw [q2];exact hb)⟩
   rw [List.mem_singleton] at hb
   subst hb
   exact⟨.inl _,_,hgn⟩⟩ (by
   show C true _ _ _ _
   simp only [Ip.set,if_true]
   rw [h1]
   unfold C
   refine⟨_,_,_,rfl,hnl2,e2,e3,.inr ⟨g',0,[],rfl,rfl,(Array.getElem?_eq_some_iff.1 hgn).1,fun _=>⟨rfl,arr,e',hgn,hsz⟩,Rws.of (xs:=xs.take (j*k)++news.take (c*k)++xs.drop ((j+c)*k)) (fun row hm=>?_) ?_ fun p u hp=>?_⟩⟩
   · rcases List.mem_append.1 hm with hm|hm
     · rcases List.mem_append.1 hm with hm|hm
       · exact s1 row (List.mem_of_mem_take hm)
       exact r1 row (List.mem_of_mem_take hm)
     exact s1 row (List.mem_of_mem_drop hm)
   · rw [List.flatten_append,List.flatten_append,(flatten_take_k j hrows).1,(flatten_take_k (j+c) hrows).2,(flatten_take_k c r1).1]
     have c1:=(Cs_flat (o':=true) (w':=w.setRow g' arr) hv1 s2).1
     have c2:=(Cs_flat (o':=true) (w':=w.setRow g' arr) hv2 r2').1
     exact Cs.append (F:=[]) (Cs.append (F:=[]) (Cs_td _ c1).1 (Cs_td _ c2).1) (Cs_td _ c1).2
   simp only [World.cell?,hgn,Nat.zero_add]
   have hlt:=(List.getElem?_eq_some_iff.1 hp).1
   simp only [Option.isSome_none,Bool.false_eq_true,if_false]
   rw [←Array.getElem?_toList,harr2,List.getElem?_append_left hlt];exact hp)
  exact⟨.int .i64 c,_,by simp [execOp,ho,resolve,invoke,builtin,hev,hrun],_,hR.put hd (VS_v _)⟩
theorem R_conv {t t':TypeId} {x:Operand} {k0 k:IntKind} {n m:Int} (ho:o.op=.convert t t' x) (hg:Grd ops o σ q) (hd:o.dst.all (fun d=>Nat.blt d σ.n)=true) (hx:Get σ q x (.one (.t (.v (.int k0 n))))) (hu0:(P.underlying t).isSome=true) (hu:P.underlying t'=some (.int k)) (hm:q=true→k.wrap n=m) :
 Op1 P ops o σ (σ.put o.dst (q,.a (.one (.t (.v (.int k m)))))):=
 .val hg hd fun I w0 a w hr hq=>by
  have hv:=hx.int hr hq
  obtain⟨u0,hu0⟩:=Option.isSome_iff_exists.1 hu0
  exact⟨_,by simp [execOp,ho,hv,Go.convert,run_underlying hu0,run_underlying hu,Conv.intToInt,hm hq],VS_v _⟩
end
end Go.Q
namespace Go.Q
open Go.RowKit
section
variable {P:Program}
theorem AW.condJ {w0:Base} {Q:Exit→St→Prop} {σ:St} {c:Operand} {x y:Code} {b:Bool} (σJ:St) (hc:Get σ true c (.one (.t (.v (.bool b))))) (ht:b=true→AW P w0 x (ThenQ (fun σ'=>Le σ' σJ) Q) σ) (hf:b=false→Le σ σJ) (h:AW P w0 y Q σJ):AW P w0 (.cond c x .skip) (ThenQ (fun σ'=>AW P w0 y Q σ') Q) σ:=by
 refine Ai hc (fun e=>?_) (fun e=>Aj (Ar (hf e) h));intro a w hr;refine Code.wp_mono ?_ (ht e a w hr)
 rintro ex a' w' ⟨σ',h3,h4⟩
 cases ex with
 | normal=>exact⟨σJ,h,h3 w0 a' w' h4⟩
 | exit id=>exact⟨σ',h3,h4⟩
 | goto l=>exact⟨σ',h3,h4⟩
 | ret=>exact⟨σ',h3,h4⟩
 | panic c=>exact⟨σ',h3,h4⟩
 | outgrown=>exact⟨σ',h3,h4⟩
theorem pureStep {n:Nat} {sl:List (Nat×(Bool×S))} {rs:List (Nat×R)} {l:List Oper} {N:Nat} {B:Nat→List Nat} {outs:List Out} (hB:planC l.toArray N=true) (hO:ordB l B N=true) (hl:outs.length≤N) (hU:outB B ⟨n,sl,rs⟩ outs=true) {i:Nat} {o:Oper} {y:Out} (hi:i<N) (ho':l[i]?=some o) (hy:outs[i]?=some y)
 (hloc:Loc P l.toArray o (stL (memN (B i)) 0 outs ⟨n,delS (outs.map (·.1)) sl,rs⟩) y) {listed:Array Bool} (inv:HeadInv .any l.toArray N listed) (hd:∀ j∈deps o,listed.getD j false=true) (hu:listed.getD i false=false) {w0:Base} {a:Act} {w:World} (hJ:Rel w0 (stL (fun j=>listed.getD j false) 0 outs ⟨n,sl,rs⟩) a w) :
 ∀ (K:Act→World→Prop) (Q':Exit→Act→World→Prop),(∀ a' w',Rel w0 (stL (fun j=>(listed.setIfInBounds i true).getD j false) 0 outs ⟨n,sl,rs⟩) a' w'→K a' w')→if Region.wanted o (yielded l.toArray a.tmps) then o.wp P a w K Q' else K (a.put o.dst undef) w:=by
 have hU':=List.all_eq_true.1 hU
 have dsl:∀ (i:Nat) (y:Out),outs[i]?=some y→∀ (k:Nat) (z:Out),outs[k]?=some z→z.1=y.1→k=i:=by
  intro i y hi k z hk e
  have:=hU' i (List.mem_range.2 (List.getElem?_eq_some_iff.1 hi).1)
  rw [hi] at this
  simp only [Bool.and_eq_true] at this
  have:=List.all_eq_true.1 this.1 k (List.mem_range.2 (List.getElem?_eq_some_iff.1 hk).1)
  rw [hk] at this
  simp only [Bool.or_eq_true,decide_eq_true_eq,Bool.not_eq_true'] at this
  rcases this with h|h
  · exact h
  rw [e,Nat.beq_refl] at h;cases h
 have ids:∀ (i:Nat) (y:Out),outs[i]?=some y→∀ u∈y.2.2,St.has ⟨n,sl,rs⟩ u.1=false∧∀ (k:Nat) (z:Out),outs[k]?=some z→k=i∨((Out.has z u.1=true→i∈B k)∧∀ v∈z.2.2,v.1≠u.1):=by
  intro i y hi u hu
  have:=hU' i (List.mem_range.2 (List.getElem?_eq_some_iff.1 hi).1)
  rw [hi] at this
  simp only [Bool.and_eq_true] at this
  have:=List.all_eq_true.1 this.2 u hu
  simp only [Bool.and_eq_true,Bool.not_eq_true'] at this
  refine⟨this.1,fun k z hk=>?_⟩
  have:=List.all_eq_true.1 this.2 k (List.mem_range.2 (List.getElem?_eq_some_iff.1 hk).1)
  rw [hk] at this
  simp only [Bool.or_eq_true,decide_eq_true_eq,Bool.and_eq_true,Bool.not_eq_true',List.all_eq_true] at this
  rcases this with h|⟨h1,h2⟩
  · exact .inl h
  refine .inr ⟨fun hz=>?_,fun v hv=>beq_ne (h2 v hv)⟩
  rcases h1 with h1|h1
  · rw [hz] at h1;cases h1
  exact memN_iff.1 h1
 have hlN:N≤l.length:=by
  simp only [planC,Bool.and_eq_true,decide_eq_true_eq] at hB
  simpa using hB.1.1.1
 have inB:∀ (listed:Array Bool),HeadInv .any l.toArray N listed→∀ i o,i<N→l[i]?=some o→(∀ j∈deps o,listed.getD j false=true)→∀ j∈B i,listed.getD j false=true:=by
  intro listed inv i o hi ho hd
  have hOi:=List.all_eq_true.1 hO i (List.mem_range.2 hi)
  rw [ho] at hOi
  have hOi':=List.all_eq_true.1 hOi
  have key:∀ d j,N-j≤d→j∈B i→listed.getD j false=true:=by
   intro d
   induction d with
   | zero=>
    intro j hj hm
    have:=hOi' j hm
    simp only [Bool.or_eq_true,List.contains_iff_mem,List.any_eq_true,Bool.and_eq_true,decide_eq_true_eq] at this
    rcases this with h|⟨m,hmB,⟨h1,h2⟩,h3⟩
    · exact hd j h
    omega
   | succ d ih=>
    intro j hj hm
    have:=hOi' j hm
    simp only [Bool.or_eq_true,List.contains_iff_mem,List.any_eq_true,Bool.and_eq_true,decide_eq_true_eq] at this
    rcases this with h|⟨m,hmB,⟨h1,h2⟩,h3⟩
    · exact hd j h
    have hml:=ih m (by omega) hmB
    cases hom:l[m]? with
    | none=>rw [hom] at h3;cases h3
    | some om=>
     rw [hom] at h3
     simp only [List.contains_iff_mem] at h3
     obtain⟨e,he,hb,rfl⟩:=mem_deps.1 h3
     exact inv.closed m om (by simpa using hom) hml e he hb
  exact fun j hm=>key (N-j) j (Nat.le_refl _) hm
 have hBL:=inB listed inv i o hi ho' hd
 have hsup:Sup (stL (memN (B i)) 0 outs ⟨n,delS (outs.map (·.1)) sl,rs⟩) (stL (fun j=>listed.getD j false) 0 outs ⟨n,sl,rs⟩):=by
  refine⟨by rw [stL_n,stL_n],fun t x hx=>?_,fun t x hx=>?_⟩
  · by_cases hex:∃ j z,outs[j]?=some z∧memN (B i) j=true∧z.1=t
    · obtain⟨j,z,hz,hj,rfl⟩:=hex
      have e:=stL_slot (L:=memN (B i)) (t:=z.1) outs 0 ⟨n,delS (outs.map (·.1)) sl,rs⟩ j z hz (by rw [Nat.zero_add];exact hj) rfl rfl (fun k u hk e=>dsl j z hz k u hk e)
      rw [hx] at e
      cases e
      exact stL_slot outs 0 _ j z hz (by rw [Nat.zero_add];exact hBL j (memN_iff.1 hj)) rfl rfl fun k u hk e=>dsl j z hz k u hk e
    rw [stL_slot_base outs 0 _ fun j z hz hj e=>hex ⟨j,z,hz,by rw [Nat.zero_add] at hj;exact hj,e⟩,look_delS] at hx
    split at hx
    · cases hx
    rename_i hnm
    rw [stL_slot_base outs 0 _ fun j z hz _ e=>hnm (List.mem_map.2 ⟨z,List.mem_of_getElem? hz,e⟩)]
    exact hx
  by_cases hex:∃ j z,outs[j]?=some z∧memN (B i) j=true∧∃ u∈z.2.2,u.1=t
  · obtain⟨j,z,hz,hj,u,hu,rfl⟩:=hex
    have uniq:∀ (k:Nat) (z':Out),outs[k]?=some z'→(∃ v∈z'.2.2,v.1=u.1)→k=j:=fun k z' hk ⟨v,hv,e⟩=>by
     rcases (ids j z hz u hu).2 k z' hk with h|⟨_,h⟩
     · exact h
     exact absurd e (h v hv)
    cases hlk:look z.2.2.reverse u.1 with
    | none=>
     exfalso
     have:∀ (m:List (Nat×R)),u∈m→look m u.1≠none:=by
      intro m
      induction m with
      | nil=>intro h;cases h
      | cons c m ih=>
       intro h
       obtain⟨ci,cx⟩:=c
       rw [look_cons]
       split
       · simp
       rename_i e
       rcases List.mem_cons.1 h with rfl|h
       · exact absurd rfl e
       exact ih h
     exact this _ (by simpa using hu) hlk
    | some x'=>
     have e:=stL_res (L:=memN (B i)) outs 0 ⟨n,delS (outs.map (·.1)) sl,rs⟩ j z hz (by rw [Nat.zero_add];exact hj) hlk uniq
     rw [hx] at e
     cases e
     exact stL_res outs 0 _ j z hz (by rw [Nat.zero_add];exact hBL j (memN_iff.1 hj)) hlk uniq
  rw [stL_res_base outs 0 _ fun j z hz hj u hu e=>hex ⟨j,z,hz,by rw [Nat.zero_add] at hj;exact hj,u,hu,e⟩] at hx
  rw [stL_res_base outs 0 _ fun j z hz _ u hu e=>?_]
  · exact hx
  have:=(ids j z hz u hu).1
  exact (St.has_res this (e▸hx)).1 rfl
 have hfresh:∀ u∈y.2.2,(stL (fun j=>listed.getD j false) 0 outs ⟨n,sl,rs⟩).has u.1=false:=by
  intro u hu';refine has_stL outs 0 _ (ids i y hy u hu').1 fun j z hz hL=>?_
  rw [Nat.zero_add] at hL
  cases hh:Out.has z u.1 with
  | false=>rfl
  | true=>
   rcases (ids i y hy u hu').2 j z hz with rfl|⟨h1,_⟩
   · rw [hu] at hL;cases hL
   exfalso
   have hib:=h1 hh
   have hjN:j<N:=by have:=(List.getElem?_eq_some_iff.1 hz).1;omega
   have hoj:l[j]?=some (l[j]'(by omega)):=List.getElem?_eq_getElem _
   have:=inB listed inv j _ hjN hoj (fun k hk=>by
    obtain⟨e,he,hb,rfl⟩:=mem_deps.1 hk
    exact inv.closed j _ (by simp) hL e he hb) i hib
   rw [hu] at this;cases this
 intro K Q' hK;refine hloc _ hsup hfresh w0 a w hJ K Q' fun a' w' hr'=>hK a' w' ?_
 have hget:∀ j,(listed.setIfInBounds i true).getD j false=if j=i then true else listed.getD j false:=by
  intro j
  by_cases e:j=i
  · subst e
    have:j<listed.size:=by rw [inv.size];simp;omega
    simp [this]
  rw [if_neg e];exact getD_set_ne false (fun h=>e h.symm)
 refine Rel.of_look hr' (by rw [stL_n,stL_n]) (fun t x hx=>?_) (fun t x hx=>?_)
 · show look ((y.1,y.2.1)::_) t=some x
   rw [look_cons]
   by_cases e:y.1=t
   · rw [if_pos e]
     have:=stL_slot (L:=fun j=>(listed.setIfInBounds i true).getD j false) outs 0 ⟨n,sl,rs⟩ i y hy (by rw [Nat.zero_add];rw [hget,if_pos rfl]) e rfl fun k z hk e'=>dsl i y hy k z hk (e'.trans e.symm)
     rw [this] at hx;exact hx
   rw [if_neg e]
   by_cases hex:∃ j z,outs[j]?=some z∧listed.getD j false=true∧z.1=t
   · obtain⟨j,z,hz,hj,rfl⟩:=hex
     have e1:=stL_slot (L:=fun j=>(listed.setIfInBounds i true).getD j false) outs 0 ⟨n,sl,rs⟩ j z hz (by rw [Nat.zero_add,hget];split;rfl;exact hj) rfl rfl fun k u hk e=>dsl j z hz k u hk e
     rw [e1] at hx
     cases hx
     exact stL_slot outs 0 _ j z hz (by rw [Nat.zero_add];exact hj) rfl rfl fun k u hk e=>dsl j z hz k u hk e
   rw [stL_slot_base outs 0 _ fun j z hz hj e'=>hex ⟨j,z,hz,by rw [Nat.zero_add] at hj;exact hj,e'⟩]
   rw [stL_slot_base outs 0 _ fun j z hz hj e'=>?_] at hx
   · exact hx
   rw [Nat.zero_add,hget] at hj
   split at hj
   · rename_i e2;subst e2;rw [hy] at hz;cases hz;exact e e'
   exact hex ⟨j,z,hz,hj,e'⟩
 show look (addsR y.2.2 _) t=some x
 rw [look_addsR]
 by_cases hyt:∃ u∈y.2.2,u.1=t
 · obtain⟨u,hu',rfl⟩:=hyt
   have uniq:∀ (k:Nat) (z':Out),outs[k]?=some z'→(∃ v∈z'.2.2,v.1=u.1)→k=i:=fun k z' hk ⟨v,hv,e⟩=>by
    rcases (ids i y hy u hu').2 k z' hk with h|⟨_,h⟩
    · exact h
    exact absurd e (h v hv)
   cases hlk:look y.2.2.reverse u.1 with
   | none=>
    simp only
    rw [stL_res_base outs 0 _ fun j z hz hj v hv e'=>?_] at hx ⊢
    · exact hx
    all_goals
     have:=uniq j z hz ⟨v,hv,e'⟩
     subst this
     rw [hy] at hz;cases hz
     have hne:∀ (m:List (Nat×R)),v∈m→look m v.1≠none:=by
      intro m
      induction m with
      | nil=>intro h;cases h
      | cons c m ih=>
       intro h
       obtain⟨ci,cx⟩:=c
       rw [look_cons]
       split
       · simp
       rename_i e
       rcases List.mem_cons.1 h with rfl|h
       · exact absurd rfl e
       exact ih h
     exact hne _ (by simpa using hv) (e'▸hlk)
   | some x'=>
    have:=stL_res (L:=fun j=>(listed.setIfInBounds i true).getD j false) outs 0 ⟨n,sl,rs⟩ i y hy (by rw [Nat.zero_add];rw [hget,if_pos rfl]) hlk uniq
    rw [this] at hx
    exact hx
 have hnone:look y.2.2.reverse t=none:=look_none_of fun v hv e=>hyt ⟨v,by simpa using hv,e⟩
 rw [hnone]
 simp only
 by_cases hex:∃ j z,outs[j]?=some z∧listed.getD j false=true∧∃ u∈z.2.2,u.1=t
 · obtain⟨j,z,hz,hj,u,hu',rfl⟩:=hex
   have uniq:∀ (k:Nat) (z':Out),outs[k]?=some z'→(∃ v∈z'.2.2,v.1=u.1)→k=j:=fun k z' hk ⟨v,hv,e⟩=>by
    rcases (ids j z hz u hu').2 k z' hk with h|⟨_,h⟩
    · exact h
    exact absurd e (h v hv)
   cases hlk:look z.2.2.reverse u.1 with
   | none=>
    exfalso
    have hne:∀ (m:List (Nat×R)),u∈m→look m u.1≠none:=by
     intro m
     induction m with
     | nil=>intro h;cases h
     | cons c m ih=>
      intro h
      obtain⟨ci,cx⟩:=c
      rw [look_cons]
      split
      · simp
      rename_i e
      rcases List.mem_cons.1 h with rfl|h
      · exact absurd rfl e
      exact ih h
    exact hne _ (by simpa using hu') hlk
   | some x'=>
    have e1:=stL_res (L:=fun j=>(listed.setIfInBounds i true).getD j false) outs 0 ⟨n,sl,rs⟩ j z hz (by rw [Nat.zero_add,hget];split;rfl;exact hj) hlk uniq
    rw [e1] at hx
    cases hx
    exact stL_res outs 0 _ j z hz (by rw [Nat.zero_add];exact hj) hlk uniq
 rw [stL_res_base outs 0 _ fun j z hz hj u hu' e'=>hex ⟨j,z,hz,by rw [Nat.zero_add] at hj;exact hj,u,hu',e'⟩]
 rw [stL_res_base outs 0 _ fun j z hz hj u hu' e'=>?_] at hx
 · exact hx
 rw [Nat.zero_add,hget] at hj
 split at hj
 · rename_i e2;subst e2;rw [hy] at hz;cases hz;exact hyt ⟨u,hu',e'⟩
 exact hex ⟨j,z,hz,hj,u,hu',e'⟩
def subsN:List Nat→List (List Nat)
 | []=>[[]]
 | r::l=>(subsN l).flatMap fun S=>[S,r::S]
theorem subs_of (p:Nat→Bool):∀ R:List Nat,∃ S∈subsN R,∀ j,j∈S↔j∈R∧p j=true
 | []=>⟨[],by simp [subsN],by simp⟩
 | r::R=>by
  obtain⟨S,h1,h2⟩:=subs_of p R
  cases hp:p r with
  | true=>
   refine⟨r::S,List.mem_flatMap.2 ⟨S,h1,by simp⟩,fun j=>?_⟩
   rw [List.mem_cons,List.mem_cons,h2]
   by_cases e:j=r
   · subst e;simp [hp]
   simp [e]
  | false=>
   refine⟨S,List.mem_flatMap.2 ⟨S,h1,by simp⟩,fun j=>?_⟩
   rw [List.mem_cons,h2]
   by_cases e:j=r
   · subst e;simp [hp]
   simp [e]
def mixB (l:List Oper) (N H:Nat) (A R:List Nat) (bs:List (List Nat)) (ms:List (List Nat)) (es:List (Nat×Nat×Nat)) (k:Nat) (todo:List (Nat×List Nat)):Bool:=
 (List.range ms.length).all (fun a=>match ms[a]? with
  | none=>false
  | some m=>((List.range N).all (fun i=>memN m i||(match l[i]? with
   | none=>false
   | some o=>!((deps o).all (memN m))||es.any (fun e=>Nat.beq e.1 a&&Nat.beq e.2.1 i&&(match ms[e.2.2]? with
    | none=>false
    | some m'=>(List.range N).all fun j=>memN m' j == (Nat.beq j i||memN m j))))))&&
   (Nat.beq a k||(List.range N).any (fun i=>!(memN m i))))&&
 ((List.range N).all (fun i=>Nat.blt i H||A.all (memN (nthB bs i)))&&A.all (fun j=>Nat.blt j H)&&(List.range H).all (fun j=>memN A j||memN R j)&&R.all (fun j=>Nat.blt j H&&!(memN A j)))&&
 (subsN R).all (fun S=>todo.any fun p=>(match ms[p.1]? with|some m=>(List.range N).all fun j=>memN m j == (memN A j||memN S j)|none=>false)&&(List.range N).all fun j=>memN p.2 j == (memN A j||memN S j))
theorem stL_congrN {L L':Nat→Bool}:∀ (outs:List Out) (i:Nat) (σ:St),(∀ j,j<outs.length→L (i+j)=L' (i+j))→stL L i outs σ=stL L' i outs σ
 | [],_,_,_=>rfl
 | y::r,i,σ,h=>by
  rw [stL,stL,show L i=L' i by simpa using h 0 (by simp)]
  exact stL_congrN r (i+1) _ fun j hj=>by have:=h (j+1) (by simp;omega);rwa [show i+(j+1)=i+1+j by omega] at this
theorem AW.mix {w0:Base} {Q:Exit→St→Prop} {n:Nat} {sl:List (Nat×(Bool×S))} {rs:List (Nat×R)} {id:Nat} {l:List Oper} (N H k:Nat) (A R:List Nat) (bs:List (List Nat)) (ms:List (List Nat)) (es:List (Nat×Nat×Nat)) (todo:List (Nat×List Nat)) (st:Nat→St) (outs:List Out) (hm:P.follows .mixedOrders=true) (hB:planC l.toArray N=true) (hO:ordB l (nthB bs) N=true) (hP:mixB l N H A R bs ms es k todo=true) (hA0:A.isEmpty=false)
 (hl:outs.length=H) (hHN:H≤N) (hsteps:∀ i o y,i<H→l[i]?=some o→outs[i]?=some y→Loc P l.toArray o (stL (memN (nthB bs i)) 0 outs ⟨n,delS (outs.map (·.1)) sl,rs⟩) y) (hU:outB (nthB bs) ⟨n,sl,rs⟩ outs=true)
 (hin:∀ p∈todo,Le (stL (memN p.2) 0 outs ⟨n,sl,rs⟩) (st p.1))
 (hes:∀ e∈es,∀ o,l[e.2.1]?=some o→∀ w0,AWl P w0 l.toArray (EndQ (st e.2.2)) [o] (st e.1)) (hfin:AWl P w0 l.toArray Q (l.drop N) (st k)):AW P w0 (.region id l.toArray true) Q ⟨n,sl,rs⟩:=by
 intro a w hr;refine wp_region_any hm ?_
 simp only [mixB,Bool.and_eq_true] at hP
 obtain⟨⟨hP,⟨⟨hA1,hA2⟩,hA3⟩,hA4⟩,hsub⟩:=hP
 have hlN:N≤l.length:=by
  have hB':=hB
  simp only [planC,Bool.and_eq_true,decide_eq_true_eq] at hB'
  simpa using hB'.1.1.1
 have hdep:∀ i o,i<N→l[i]?=some o→∀ j∈deps o,j<i:=fun i o hi ho j hj=>by
  have hB':=hB
  simp only [planC,Bool.and_eq_true,decide_eq_true_eq] at hB'
  have:=List.all_eq_true.1 hB'.1.1.2 i (List.mem_range.2 hi)
  have ho':l.toArray[i]?=some o:=by simpa using ho
  rw [ho'] at this
  have:=List.all_eq_true.1 this j hj
  simpa using this
 have hat:∀ (b:Nat) (m:List Nat),ms[b]?=some m→((∀ i,i<N→memN m i=false→∀ o,l[i]?=some o→(∀ j∈deps o,memN m j=true)→∃ e∈es,e.1=b∧e.2.1=i∧∃ m',ms[e.2.2]?=some m'∧∀ j,j<N→memN m' j=(Nat.beq j i||memN m j))∧((∀ i,i<N→memN m i=true)→b=k)):=by
  intro b m hb
  have:=List.all_eq_true.1 hP b (List.mem_range.2 (List.getElem?_eq_some_iff.1 hb).1)
  rw [hb] at this
  simp only [Bool.and_eq_true] at this
  refine⟨fun i hi hu o ho hd=>?_,fun hall=>?_⟩
  · have:=List.all_eq_true.1 this.1 i (List.mem_range.2 hi)
    rw [hu,Bool.false_or,ho] at this
    simp only [Bool.or_eq_true,Bool.not_eq_true'] at this
    rcases this with h|h
    · rw [List.all_eq_true.2 hd] at h;cases h
    obtain⟨e,he,h⟩:=List.any_eq_true.1 h
    simp only [Bool.and_eq_true] at h
    obtain⟨⟨h1,h2⟩,h3⟩:=h
    refine⟨e,he,Nat.eq_of_beq_eq_true h1,Nat.eq_of_beq_eq_true h2,?_⟩
    split at h3
    · cases h3
    rename_i m' hm'
    exact⟨m',hm',fun j hj=>by simpa using List.all_eq_true.1 h3 j (List.mem_range.2 hj)⟩
  have h2:=this.2
  simp only [Bool.or_eq_true] at h2
  rcases h2 with h|h
  · exact Nat.eq_of_beq_eq_true h
  obtain⟨i,hi,h⟩:=List.any_eq_true.1 h
  rw [hall i (List.mem_range.1 hi)] at h;cases h
 have inB:∀ (listed:Array Bool),HeadInv .any l.toArray N listed→∀ i o,i<N→l[i]?=some o→(∀ j∈deps o,listed.getD j false=true)→∀ j∈nthB bs i,listed.getD j false=true:=by
  intro listed inv i o hi ho hd
  have hOi:=List.all_eq_true.1 hO i (List.mem_range.2 hi)
  rw [ho] at hOi
  have hOi':=List.all_eq_true.1 hOi
  have key:∀ d j,N-j≤d→j∈nthB bs i→listed.getD j false=true:=by
   intro d
   induction d with
   | zero=>
    intro j hj hm
    have:=hOi' j hm
    simp only [Bool.or_eq_true,List.contains_iff_mem,List.any_eq_true,Bool.and_eq_true,decide_eq_true_eq] at this
    rcases this with h|⟨m,hmB,⟨h1,h2⟩,h3⟩
    · exact hd j h
    omega
   | succ d ih=>
    intro j hj hm
    have:=hOi' j hm
    simp only [Bool.or_eq_true,List.contains_iff_mem,List.any_eq_true,Bool.and_eq_true,decide_eq_true_eq] at this
    rcases this with h|⟨m,hmB,⟨h1,h2⟩,h3⟩
    · exact hd j h
    have hml:=ih m (by omega) hmB
    cases hom:l[m]? with
    | none=>rw [hom] at h3;cases h3
    | some om=>
     rw [hom] at h3
     simp only [List.contains_iff_mem] at h3
     obtain⟨e,he,hb,rfl⟩:=mem_deps.1 h3
     exact inv.closed m om (by simpa using hom) hml e he hb
  exact fun j hm=>key (N-j) j (Nat.le_refl _) hm
 have H:=wpAny_inv (P:=P) (Q:=lift w0 Q) (J:=fun listed a w=>bif A.all (fun j=>listed.getD j false) then True=True∧∃ b m,ms[b]?=some m∧(∀ j,j<N→memN m j=listed.getD j false)∧Rel w0 (st b) a w else Rel w0 (stL (fun j=>listed.getD j false) 0 outs ⟨n,sl,rs⟩) a w) hB (fun i o hi ho listed a w inv hd hu hJ=>?_) (fun listed a w hall hJ=>?_)
  (unl N (Array.replicate l.toArray.size false)) (Array.replicate l.toArray.size false) a { w with drawn:=w.drawn+1 } rfl
  ⟨by simp,fun j oj _ hl=>(by rw [getD_replicate_false] at hl;cases hl),fun t _ ht=>getD_in (by simpa using ht) (getD_replicate_false _ _)⟩ ?_
 · have hu:unl N (Array.replicate l.toArray.size false)=N:=by
    unfold unl
    rw [List.countP_eq_length.2 (fun j _=>by rw [getD_replicate_false];rfl),List.length_range]
   rw [hu,show N+(l.toArray.size-N)=l.toArray.size by simp;omega] at H
   exact H
 · have ho0:l[i]?=some o:=by simpa using ho
   have hget:∀ j,(listed.setIfInBounds i true).getD j false=if j=i then true else listed.getD j false:=by
    intro j
    by_cases e:j=i
    · subst e
      have:j<listed.size:=by rw [inv.size];simp;omega
      simp [this]
    rw [if_neg e];exact getD_set_ne false (fun h=>e h.symm)
   cases hAl:A.all (fun j=>listed.getD j false) with
   | true=>
    rw [hAl] at hJ
    obtain⟨_,b,m,hb,hmj,hr⟩:=hJ
    obtain⟨e,he,rfl,rfl,m',hm',hj'⟩:=(hat b m hb).1 i hi (by rw [hmj i hi];exact hu) o ho0 fun j hj=>by rw [hmj j (by have:=hdep i o hi ho0 j hj;omega)];exact hd j hj
    intro K Q' hK;refine EndQ.run (hes e he o ho0) hr K Q' fun a' w' hr'=>hK a' w' ?_
    have hA':A.all (fun j=>(listed.setIfInBounds e.2.1 true).getD j false)=true:=List.all_eq_true.2 fun j hj=>by
     have:=List.all_eq_true.1 hAl j hj
     rw [hget];split
     · rfl
     exact this
    rw [hA']
    refine⟨rfl,e.2.2,m',hm',fun j hj=>?_,hr'⟩
    rw [hj' j hj,hmj j hj,hget]
    by_cases ej:j=e.2.1
    · subst ej;simp [Nat.beq_refl]
    rw [beq_false ej,Bool.false_or,if_neg ej]
   | false=>
    rw [hAl,cond_false] at hJ
    have hiH:i<H:=by
     apply Classical.byContradiction;intro hn
     have h1:=List.all_eq_true.1 hA1 i (List.mem_range.2 hi)
     simp only [Bool.or_eq_true] at h1
     rcases h1 with h1|h1
     · have h2:i<H:=Nat.le_of_ble_eq_true h1
       omega
     have h2:=inB listed inv i o hi ho0 hd
     have:A.all (fun j=>listed.getD j false)=true:=List.all_eq_true.2 fun j hj=>h2 j (memN_iff.1 (List.all_eq_true.1 h1 j hj))
     rw [this] at hAl;cases hAl
    obtain⟨y,hy⟩:∃ y,outs[i]?=some y:=⟨outs[i]'(by omega),List.getElem?_eq_getElem _⟩
    intro K Q' hK;refine pureStep hB hO (by omega) hU hi ho0 hy (hsteps i o y hiH ho0 hy) inv hd hu hJ K Q' fun a' w' hr'=>hK a' w' ?_
    cases hA':A.all (fun j=>(listed.setIfInBounds i true).getD j false) with
    | false=>rw [cond_false];exact hr'
    | true=>
     rw [cond_true]
     refine⟨rfl,?_⟩
     have hhead:∀ j,H≤j→j<N→listed.getD j false=false:=by
      intro j h1 h2
      cases hlj:listed.getD j false with
      | false=>rfl
      | true=>
       exfalso
       have h3:=List.all_eq_true.1 hA1 j (List.mem_range.2 h2)
       simp only [Bool.or_eq_true] at h3
       rcases h3 with h3|h3
       · have h4:j<H:=Nat.le_of_ble_eq_true h3
         omega
       have hoj:l[j]?=some (l[j]'(by omega)):=List.getElem?_eq_getElem _
       have h4:=inB listed inv j _ h2 hoj (fun q hq=>by
        obtain⟨e,he,hb,rfl⟩:=mem_deps.1 hq
        exact inv.closed j _ (by simp) hlj e he hb)
       have:A.all (fun j=>listed.getD j false)=true:=List.all_eq_true.2 fun q hq=>h4 q (memN_iff.1 (List.all_eq_true.1 h3 q hq))
       rw [this] at hAl;cases hAl
     obtain⟨S,hS1,hS2⟩:=subs_of (fun j=>(listed.setIfInBounds i true).getD j false) R
     obtain⟨p,hp,hpm⟩:=List.any_eq_true.1 (List.all_eq_true.1 hsub S hS1)
     simp only [Bool.and_eq_true] at hpm
     obtain⟨hp1,hp2⟩:=hpm
     have hAS:∀ j,j<N→(memN A j||memN S j)=(listed.setIfInBounds i true).getD j false:=by
      intro j hj
      by_cases hjH:j<H
      · have h1:=List.all_eq_true.1 hA3 j (List.mem_range.2 hjH)
        simp only [Bool.or_eq_true] at h1
        cases hjA:memN A j with
        | true=>rw [Bool.true_or];exact (List.all_eq_true.1 hA' j (memN_iff.1 hjA)).symm
        | false=>
         rw [hjA] at h1
         have hjR:=h1.resolve_left (by simp)
         rw [Bool.false_or]
         cases hs:memN S j with
         | true=>exact ((hS2 j).1 (memN_iff.1 hs)).2.symm
         | false=>
          cases hq:(listed.setIfInBounds i true).getD j false with
          | false=>rfl
          | true=>
           have:=memN_iff.2 ((hS2 j).2 ⟨memN_iff.1 hjR,hq⟩)
           rw [hs] at this;cases this
      have h1:memN A j=false:=by
       cases h:memN A j with
       | false=>rfl
       | true=>
        have h2:=List.all_eq_true.1 hA2 j (memN_iff.1 h)
        have h3:j<H:=Nat.le_of_ble_eq_true h2
        omega
      have h2:memN S j=false:=by
       cases h:memN S j with
       | false=>rfl
       | true=>
        have h3:=List.all_eq_true.1 hA4 j ((hS2 j).1 (memN_iff.1 h)).1
        simp only [Bool.and_eq_true] at h3
        have h4:j<H:=Nat.le_of_ble_eq_true h3.1
        omega
      rw [h1,h2,hget,if_neg (by omega),hhead j (by omega) hj];rfl
     split at hp1
     · rename_i m hmm
       refine⟨p.1,m,hmm,fun j hj=>?_,?_⟩
       · have:=List.all_eq_true.1 hp1 j (List.mem_range.2 hj)
         rw [beq_iff_eq] at this
         rw [this,hAS j hj]
       refine hin p hp w0 a' w' ?_
       have e:stL (memN p.2) 0 outs ⟨n,sl,rs⟩=stL (fun j=>(listed.setIfInBounds i true).getD j false) 0 outs ⟨n,sl,rs⟩:=stL_congrN outs 0 _ fun j hj=>by
        rw [Nat.zero_add]
        have:=List.all_eq_true.1 hp2 j (List.mem_range.2 (by omega))
        rw [beq_iff_eq] at this
        rw [this,hAS j (by omega)]
       rw [e];exact hr'
     cases hp1
 · have hAl:A.all (fun j=>listed.getD j false)=true:=List.all_eq_true.2 fun j hj=>by
    have h1:=List.all_eq_true.1 hA2 j hj
    have h2:j<H:=Nat.le_of_ble_eq_true h1
    exact hall j (by omega)
   rw [hAl] at hJ
   obtain⟨_,b,m,hb,hmj,hr⟩:=hJ
   have:=(hat b m hb).2 fun i hi=>by rw [hmj i hi];exact hall i hi
   subst this;exact hfin a w hr
 have h0:A.all (fun j=>(Array.replicate l.toArray.size false).getD j false)=false:=by
  cases A with
  | nil=>cases hA0
  | cons x A=>rw [List.all_cons,getD_replicate_false,Bool.false_and]
 have key:∀ (os:List Out) (i:Nat) (σ:St),stL (fun j=>(Array.replicate l.toArray.size false).getD j false) i os σ=σ:=by
  intro os
  induction os with
  | nil=>intro i σ;rfl
  | cons y os ih=>intro i σ;rw [stL,getD_replicate_false,cond_false];exact ih _ _
 show bif A.all (fun j=>(Array.replicate l.toArray.size false).getD j false) then _ else _
 rw [h0,cond_false,key]
 obtain⟨I,hI⟩:=hr
 exact⟨I,hI.later (Ext.refl w).drawn⟩
structure MixD (P:Program) (l:List Oper) (n:Nat) (sl:List (Nat×(Bool×S))) (rs:List (Nat×R)) (outs:List Out) (acc:List (Nat×St)) (todo:List (Nat×List Nat)) (es:List (Nat×Nat×Nat)) (Fin:(Nat→St)→Prop):Prop where
 pf:∃ st:Nat→St,(∀ k σ,look acc k=some σ→st k=σ)∧(∀ p∈todo,Le (stL (memN p.2) 0 outs ⟨n,sl,rs⟩) (st p.1))∧(∀ e∈es,∀ o,l[e.2.1]?=some o→∀ w0,AWl P w0 l.toArray (EndQ (st e.2.2)) [o] (st e.1))∧Fin st
variable {l:List Oper} {n:Nat} {sl:List (Nat×(Bool×S))} {rs:List (Nat×R)} {outs:List Out} {acc:List (Nat×St)} {todo:List (Nat×List Nat)} {es:List (Nat×Nat×Nat)} {Fin:(Nat→St)→Prop}
theorem MixD.add {b:Nat} {S:List Nat} (σ':St) (hb:look acc b=none) (hle:Le (stL (memN S) 0 outs ⟨n,sl,rs⟩) σ') (h:MixD P l n sl rs outs ((b,σ')::acc) todo es Fin):MixD P l n sl rs outs acc ((b,S)::todo) es Fin:=by
 obtain⟨st,h1,h2,h3⟩:=h.pf
 have h1':∀ k σ,look acc k=some σ→st k=σ:=fun k σ hk=>h1 k σ (by
  rw [look_cons,if_neg (fun e=>?_)]
  · exact hk
  subst e;rw [hb] at hk;cases hk)
 refine⟨st,h1',fun p hp=>?_,h3⟩
 rcases List.mem_cons.1 hp with rfl|hp
 · show Le _ (st b)
   rw [h1 b σ' (by rw [look_cons,if_pos rfl])]
   exact hle
 exact h2 p hp
theorem MixD.go (h:Dag P l acc es Fin):MixD P l n sl rs outs acc [] es Fin:=by
 obtain⟨st,h1,h2,h3⟩:=h.pf
 exact⟨st,h1,fun p hp=>(by cases hp),h2,h3⟩
def FinX (P:Program) (w0:Base) (Q:Exit→St→Prop) (N k:Nat) (B:Nat→List Nat) (es:List (Nat×Nat×Nat)) (todo:List (Nat×List Nat)) (l:List Oper) (n:Nat) (sl:List (Nat×(Bool×S))) (rs:List (Nat×R)) (outs:List Out):Prop:=
 delS (outs.map (·.1)) sl=sl∧outB B ⟨n,sl,rs⟩ outs=true∧MixD P l n sl rs outs [] todo es (fun st=>AWl P w0 l.toArray Q (l.drop N) (st k))
theorem FinX.mk {w0:Base} {Q:Exit→St→Prop} {N k:Nat} {B:Nat→List Nat} (hd:delS (outs.map (·.1)) sl=sl) (hU:outB B ⟨n,sl,rs⟩ outs=true) (h:MixD P l n sl rs outs [] todo es (fun st=>AWl P w0 l.toArray Q (l.drop N) (st k))):FinX P w0 Q N k B es todo l n sl rs outs:=⟨hd,hU,h⟩
theorem AW.mixn {w0:Base} {Q:Exit→St→Prop} {id:Nat} (N H k:Nat) (A R:List Nat) (bs:List (List Nat)) (ms:List (List Nat)) (es:List (Nat×Nat×Nat)) (todo:List (Nat×List Nat)) (hm:P.follows .mixedOrders=true) (hB:planC l.toArray N=true) (hO:ordB l (nthB bs) N=true) (hP:mixB l N H A R bs ms es k todo=true) (hA0:A.isEmpty=false) (hHN:Nat.ble H N=true)
 (h:DrawG P H (nthB bs) l n sl rs (FinX P w0 Q N k (nthB bs) es todo l n sl rs) [] 0 l):AW P w0 (.region id l.toArray true) Q ⟨n,sl,rs⟩:=by
 obtain⟨outs,hl,hsteps,hd,hU,st,_,h2,h3,h4⟩:=h.pf rfl rfl
 simp only [List.reverse_nil,List.nil_append] at hl hsteps hd hU h2
 rw [←hd] at hsteps
 exact AW.mix N H k A R bs ms es todo st outs hm hB hO hP hA0 hl (Nat.le_of_ble_eq_true hHN) (fun i o y _ h1 h2=>by have:=Steps.at l outs 0 hsteps i o y h1 h2;rwa [Nat.zero_add] at this) hU h2 h3 h4
end
end Go.Q
