import Derived.Test.YtdhojcaoljhbiaaGreatB07xc
import Derived.Test.YtdhojcaoljhbiaaGreatB08xc
set_option linter.unusedVariables false
set_option linter.unusedSimpArgs false
set_option maxHeartbeats 1000000
set_option maxRecDepth 100000
open Go.Proofs.Tryz renaming underlying40->Z9,prog->ZC,underlying33->ZI,underlying34->ZJ,func113->Aan,ntmps113->Aao,func108->Aap,ntmps108->Aaq,func151->Aar,ntmps151->Aas,func100->Aat,ntmps100->Aau,func161->Aav,ntmps161->Aaw,func160->Aax,ntmps160->Aay,func166->Aaz,ntmps166->Aba,func122->Abb,ntmps122->Abc,func163->Abd,ntmps163->Abe,func114->Abf,ntmps114->Abg,func53->Abh,ntmps53->Abi,func57->Abj,ntmps57->Abk,func117->Abl,ntmps117->Abm
open List renaming range->ZA,getElem?_eq_getElem->ZB,mem_of_getElem?->ZH,mem_range->ZL,all_eq_true->ZM,getElem?_eq_some_iff->ZP,range_succ->ZS,filter_append->ZT,length_append->ZU,length_filter_le->ZW,getElem?_map->ZX,getElem_mem->Aac,any_eq_true->Aad,any_eq_false->Aae,any_map->Aaf,foldl_append->Aag,mem_singleton->Aah,length_map->Aai,getElem?_range->Aaj,take_of_length_le->Aam
open Int renaming toNat_natCast->ZD,natCast_nonneg->ZQ,lt_or_le->Aal
open Bool renaming and_eq_true->ZE,or_false->ZZ,and_false->Aak
open Nat renaming zero_le->ZF,two_pow_pos->ZG,not_lt_zero->ZK,pow_le_pow_right->ZN,le_trans->ZO,testBit_two_pow->ZR,pow_lt_pow_right->ZV,le_refl->Aaa,lt_or_ge->Aab
open Option renaming getD_some->ZY
namespace Go.Q
open Go.D
theorem GF (m s q:Nat):(m|||2^s).testBit q=(m.testBit q||decide (s=q)):=by
 rw [Nat.testBit_or,ZR]
def Kd (n m:Nat):Nat:=((ZA n).filter fun q=>!m.testBit q).length
theorem GC (n m:Nat):Kd (n+1) m=Kd n m+if m.testBit n then 0 else 1:=by
 unfold Kd
 rw [ZS,ZT,ZU]
 cases h:m.testBit n<;>simp [h]
theorem Nl {m s:Nat}:∀ {n:Nat},n≤s→Kd n (m|||2^s)=Kd n m
 | 0,_=>rfl
 | n+1,h=>by rw [GC,GC,Nl (by omega),GF,decide_eq_false (by omega),ZZ]
theorem Nj {m s:Nat} (hb:m.testBit s=false):∀ {n:Nat},s<n→Kd n (m|||2^s)+1=Kd n m
 | n+1,h=>by
  rw [GC,GC,GF]
  by_cases e:s=n
  · subst e
    rw [Nl (Aaa _)]
    simp [hb]
  rw [decide_eq_false e,ZZ]
  have:=Nj hb (n:=n) (by omega)
  omega
theorem Nk (m:Nat):∀ n:Nat,Kd n m≤n
 | 0=>Aaa _
 | n+1=>by rw [GC];have:=Nk m n;split<;>omega
theorem Fp {m s n:Nat} (h:m<2^n) (hs:s<n):m|||2^s<2^n:=Nat.or_lt_two_pow h (ZV (by omega) hs)
theorem Ff {m n q:Nat} (h:m<2^n) (hq:n≤q):m.testBit q=false:=Nat.testBit_lt_two_pow (Nat.lt_of_lt_of_le h (ZN (by omega) hq))
theorem Lm {m n:Nat} (h:m<2^n):∀ {k:Nat},n≤k→(ZA k).filter m.testBit=(ZA n).filter m.testBit
 | 0,hk=>by rw [show n=0 by omega]
 | k+1,hk=>by
  by_cases e:n=k+1
  · rw [e]
  rw [ZS,ZT,Lm h (k:=k) (by omega)]
  simp [Ff h (show n≤k by omega)]
def DA (m:Nat):List Nat:=(ZA 64).filter m.testBit
theorem Gv {m n:Nat} (h:m<2^n) (hn:n≤64):DA m=(ZA n).filter m.testBit:=Lm h hn
theorem AY (p:Nat→Bool) (n:Nat):(ZA (n+1)).filter p=(ZA n).filter p++if p n then [n] else []:=by
 rw [ZS,ZT]
 cases h:p n<;>simp [h]
theorem ES {m n q:Nat} (h:m<2^n) (hq:q∈DA m):q<n:=by
 unfold DA at hq
 rw [List.mem_filter] at hq
 rcases Aab q n with h1|h1
 · exact h1
 rw [Ff h h1] at hq;cases hq.2
theorem RJ {s:Nat} (hs:s<64):DA (2^s)=[s]:=by
 rw [Gv (n:=s+1) (ZV (by omega) (by omega)) (by omega),AY]
 have:(ZA s).filter (2^s).testBit=[]:=by
  rw [List.filter_eq_nil_iff]
  intro q hq
  have:=ZL.1 hq
  rw [ZR]
  simp;omega
 rw [this,ZR]
 simp
theorem Ls (m:Nat):(DA m).length≤64:=by
 unfold DA
 exact ZO (ZW _ _) (by simp)
def En (m:Nat):List Int:=(DA m).map fun (q:Nat)=>(q:Int)
theorem Ju {m k:Nat} {x:Int} (h:(En m)[k]?=some x):∃ q:Nat,x=(q:Int)∧(DA m)[k]?=some q:=by
 unfold En at h
 rw [ZX] at h
 obtain⟨q,hq,rfl⟩:=Option.map_eq_some_iff.1 h
 exact⟨q,rfl,hq⟩
def Jb (n:Int) (row:List Int):Bool:=(row.all fun t=>inB t (-1) (n-1))&&decide (row.length=9)
def AJ (a:AA):Bool:=inB a.Accept.length 1 12&&inB a.Start 0 (a.Accept.length-1)&&decide (a.Next.length=a.Accept.length)&&a.Next.all (Jb a.Accept.length)
def CJ (a:AA) (s k:Int):Int:=(a.Next[s.toNat]?.getD [])[k.toNat]?.getD (-1)
theorem AR {a:AA} (h:AJ a=true):1≤a.Accept.length∧a.Accept.length≤12∧a.Next.length=a.Accept.length∧0≤a.Start∧a.Start<a.Accept.length:=by
 unfold AJ inB at h
 simp only [ZE,decide_eq_true_eq] at h
 omega
theorem Ex {a:AA} (h:AJ a=true) {s k:Int} (hs:0≤s) (hs':s<a.Accept.length) (hk:0≤k) (hk':k<9) :
 ∃ row,a.Next[s.toNat]?=some row∧row.length=9∧row[k.toNat]?=some (CJ a s k)∧ -1≤CJ a s k∧CJ a s k<a.Accept.length:=by
 have hl:=AR h
 unfold AJ at h
 simp only [ZE,ZM] at h
 have hlt:s.toNat<a.Next.length:=by omega
 have h12:=h.2 _ (Aac hlt)
 unfold Jb at h12
 simp only [ZE,ZM] at h12
 obtain⟨h1,h2⟩:=h12
 simp only [decide_eq_true_eq] at h2
 have hk2:k.toNat<(a.Next[s.toNat]).length:=by omega
 have h3:=h1 _ (Aac hk2)
 have e:CJ a s k=(a.Next[s.toNat])[k.toNat]:=by
  unfold CJ
  rw [ZB hlt,ZY,ZB hk2,ZY]
 refine⟨_,ZB hlt,h2,by rw [e];exact ZB hk2,?_⟩
 rw [e]
 unfold inB at h3
 simp only [ZE,decide_eq_true_eq] at h3
 omega
def Oh (a:AA) (v:Int):Nat→Int→Nat→Nat
 | 0,_,m=>m
 | f+1,s,m=>if s<0||m.testBit s.toNat then m else Oh a v f (CJ a s (6+v)) (m|||2^s.toNat)
def BS (a:AA) (s v:Int):Nat:=Oh a v (a.Accept.length+1) s 0
theorem Pz {a:AA} {v s:Int} {m f:Nat} (h:s<0∨m.testBit s.toNat=true):Oh a v (f+1) s m=m:=by
 rw [Oh,if_pos (by simp;exact h)]
theorem TS {a:AA} {v s:Int} {m f:Nat} (h:0≤s) (hb:m.testBit s.toNat=false):Oh a v (f+1) s m=Oh a v f (CJ a s (6+v)) (m|||2^s.toNat):=by
 rw [Oh,if_neg (by simp [hb];omega)]
theorem TT {a:AA} (ha:AJ a=true) {v:Int} (hv:0≤v∧v≤2):∀ {f:Nat} {s:Int} {m:Nat},s<a.Accept.length→m<2^a.Accept.length→Oh a v f s m<2^a.Accept.length
 | 0,_,_,_,h=>h
 | f+1,s,m,hs,h=>by
  rw [Oh]
  split
  · exact h
  rename_i h1
  simp only [Bool.or_eq_true,decide_eq_true_eq,not_or] at h1
  obtain⟨row,_,_,_,_,h2⟩:=Ex ha (s:=s) (k:=6+v) (by omega) hs (by omega) (by omega)
  exact TT ha hv h2 (Fp h (by omega))
theorem Fh {a:AA} (ha:AJ a=true) {s v:Int} (hv:0≤v∧v≤2) (hs:s<a.Accept.length):BS a s v<2^a.Accept.length:=TT ha hv hs (ZG _)
theorem DC {a:AA} (ha:AJ a=true):2^a.Accept.length≤4096:=by
 have:=(AR ha).2.1
 calc 2^a.Accept.length≤2^12:=ZN (by omega) this
  _=4096:=rfl
theorem K3 {a:AA} (ha:AJ a=true) {x:Nat} (hx:x<a.Accept.length):2^x≤4096:=ZO (ZN (by omega) (Nat.le_of_lt hx)) (DC ha)
def Oo (a:AA) (t:Nat):Bool:=a.Accept[t]?.getD false
def acc (a:AA) (s v:Int):Bool:=(DA (BS a s v)).any (Oo a)
theorem FI (m n:Nat) (p:Nat→Bool):((ZA n).filter m.testBit).any p=(ZA n).any fun q=>m.testBit q&&p q:=by
 rw [List.any_filter]
theorem Wn {a:AA} {s v:Int} (h:BS a s v<2^a.Accept.length) (hn:a.Accept.length≤64):acc a s v=(ZA a.Accept.length).any fun q=>(BS a s v).testBit q&&Oo a q:=by
 unfold acc
 rw [Gv h hn,FI]
theorem Pf {p:Nat→Bool} {n k:Nat} (hk:k<n) (h:p k=true):(ZA n).any p=true:=Aad.2 ⟨k,ZL.2 hk,h⟩
theorem NB {p:Nat→Bool} {n k:Nat} (hk:n≤k) (h:∀ j,j<k→p j=false):(ZA n).any p=false:=by
 rw [Aae]
 intro j hj
 rw [h j (by have:=ZL.1 hj;omega)];simp
theorem Kj {p:Nat→Prop} {k:Nat} (h:∀ j,j<k→p j) (hk:p k):∀ j,j<k+1→p j:=fun j hj=>by
 rcases Nat.lt_or_eq_of_le (Nat.le_of_lt_succ hj) with h1|rfl
 · exact h j h1
 exact hk
theorem Wi {α:Type} {l:List α} {k:Nat} {x:α} {p:α→Bool} (h:l[k]?=some x) (hp:p x=true):l.any p=true:=Aad.2 ⟨x,ZH h,hp⟩
theorem RS {α:Type} {l:List α} {k:Nat} {p:α→Bool} (h:∀ j y,j<k→l[j]?=some y→(!p y)=true) (hk:l.length≤k):l.any p=false:=by
 rw [Aae]
 intro x hx
 obtain⟨j,hj,rfl⟩:=List.getElem_of_mem hx
 have:=h j _ (by omega) (ZB hj)
 simpa using this
def Hy (a:AA) (m:Nat) (v:Int):Bool:=(DA m).any fun (s:Nat)=>acc a s v
def FJ (a:AA) (k:Int) (l:List Nat) (m:Nat):Nat:=l.foldl (fun m (t:Nat)=>if 0≤CJ a t k then m|||2^(CJ a t k).toNat else m) m
def Gw (a:AA) (s v k:Int):Nat:=FJ a k (DA (BS a s v)) 0
def DX (a:AA) (m:Nat) (v k:Int):Nat:=(DA m).foldl (fun out (s:Nat)=>FJ a k (DA (BS a s v)) out) 0
theorem XZ (a:AA) (s v:Int):acc a s v=(En (BS a s v)).any fun t=>Oo a t.toNat:=by
 unfold acc En
 rw [Aaf];rfl
theorem Wp (a:AA) (m:Nat) (v:Int):Hy a m v=(En m).any fun s=>acc a s v:=by
 unfold Hy En
 rw [Aaf];rfl
theorem RW (a:AA) {s:Nat} (v:Int) (hs:s<64):Hy a (2^s) v=acc a s v:=by unfold Hy;rw [RJ hs];simp
theorem Wl (a:AA) {s:Nat} (v k:Int) (hs:s<64):DX a (2^s) v k=Gw a s v k:=by unfold DX;rw [RJ hs];rfl
theorem TZ {a:AA} (ha:AJ a=true) {k:Int} (hk:0≤k∧k<9):∀ {l:List Nat} {m:Nat},(∀ t∈l,t<a.Accept.length)→m<2^a.Accept.length→FJ a k l m<2^a.Accept.length
 | [],_,_,h=>h
 | t::l,m,hl,h=>by
  show FJ a k l _<_
  refine TZ ha hk (fun t ht=>hl t (by simp [ht])) ?_
  dsimp only
  split
  · obtain⟨row,_,_,_,_,h2⟩:=Ex ha (s:=(t:Int)) (k:=k) (by omega) (by have:=hl t (by simp);omega) hk.1 hk.2
    exact Fp h (by omega)
  exact h
theorem Ua {a:AA} {k:Int} {l:List Nat} {j:Nat} {t:Nat} (h:l[j]?=some t) (m:Nat):FJ a k (l.take (j+1)) m=if 0≤CJ a t k then FJ a k (l.take j) m|||2^(CJ a t k).toNat else FJ a k (l.take j) m:=by
 unfold FJ
 rw [CO h,Aag]
 rfl
theorem XE {a:AA} {m j q:Nat} {v k:Int} (h:(DA m)[j]?=some q):((DA m).take (j+1)).foldl (fun out (s:Nat)=>FJ a k (DA (BS a s v)) out) 0=FJ a k (DA (BS a q v)) (((DA m).take j).foldl (fun out (s:Nat)=>FJ a k (DA (BS a s v)) out) 0):=by
 rw [CO h,Aag];rfl
theorem JR (m:Nat):(En m).length=(DA m).length:=by unfold En;simp
theorem Jt (m:Nat):(En m).length≤64:=by rw [JR];exact Ls m
theorem Qs {a:AA} (ha:AJ a=true) {s v:Int} (hv:0≤v∧v≤2) (hs:s<a.Accept.length):∀ t∈DA (BS a s v),t<a.Accept.length:=fun _ ht=>ES (Fh ha hv hs) ht
theorem I5 {a:AA} (ha:AJ a=true) {s v k:Int} (hv:0≤v∧v≤2) (hs:s<a.Accept.length) (hk:0≤k∧k<9):Gw a s v k<2^a.Accept.length:=TZ ha hk (Qs ha hv hs) (ZG _)
structure DB where
 step:DK
 letter:Int
 to:Int
 deriving DecidableEq
def Gk (e:DL) (x:Int):List DB:=(if e.From=x then [⟨⟨e.ID,false⟩,FB e false,e.To⟩] else [])++if e.To=x then [⟨⟨e.ID,true⟩,FB e true,e.From⟩] else []
def Fe (l:List DL) (x:Int):List DB:=l.flatMap fun e=>Gk e x
def AV (g:AC) (x:Int):List DB:=Fe g.Edges x
theorem Jv {l:List DL} {k:Nat} {e:DL} (h:l[k]?=some e) (x:Int):Fe (l.take (k+1)) x=Fe (l.take k) x++Gk e x:=by
 unfold Fe
 rw [CO h,List.flatMap_append];simp
theorem FH (l:List DL) (x:Int):(Fe l x).length≤2*l.length:=by
 induction l with
 | nil=>simp [Fe]
 | cons e l ih=>
  have e1:Fe (e::l) x=Gk e x++Fe l x:=by simp [Fe]
  have e2:(Gk e x).length≤2:=by
   unfold Gk
   rw [ZU]
   split<;>split<;>simp
  rw [e1,ZU,List.length_cons];omega
def GU (x:DB):List T:=[.v (.int .i64 x.step.Edge),.v (.bool x.step.Inverse),.v (.int .i64 x.letter),.v (.int .i64 x.to)]
def Oi (x:List DB):List T:=[.sl 4 (x.map GU)]
def Ol (g:AC):List (List DB):=(ZA g.Values.length).map fun (x:Nat)=>AV g x
def II (g:AC) (a:AA) (l:List Int):Bool:=(l.all fun x=>inB x 0 (g.Values.length-1))&&(AI g&&AJ a)
def HG (g:AC) (a:AA) (x s:Int):Bool:=AI g&&AJ a&&inB x 0 (g.Values.length-1)&&inB s 0 (a.Accept.length-1)
def EZ (a:AA) (y v:Int):List Int:=((ZA a.Accept.length).filter fun (s:Nat)=>acc a s v).map fun (s:Nat)=>y*a.Accept.length+s
def IQ (a:AA) (s v:Int) (y:DB):List E3:=(DA (Gw a s v y.letter)).map fun (t:Nat)=>⟨y.step,y.to,t⟩
def Fy (g:AC) (a:AA) (x s:Int):List E3:=(AV g x).flatMap (IQ a s (g.Values[x.toNat]?.getD 0))
def E5 (a:AA) (s v:Int) (y:DB):List Int:=(DA (Gw a s v y.letter)).map fun (t:Nat)=>y.to*a.Accept.length+t
def Lg (g:AC) (a:AA) (x s:Int):List Int:=(AV g x).flatMap (E5 a s (g.Values[x.toNat]?.getD 0))
theorem SD (g:AC) (a:AA) (x s:Int):Lg g a x s=(Fy g a x s).map fun (p:E3)=>p.Node*(a.Accept.length:Int)+p.State:=by
 unfold Lg Fy
 rw [List.map_flatMap]
 congr 1
 funext y
 unfold E5 IQ
 simp
theorem CA {g:AC} (h:AI g=true):1≤g.Values.length∧g.Values.length≤5∧g.Edges.length≤12:=by
 unfold AI inB at h
 simp only [ZE,decide_eq_true_eq] at h
 omega
theorem GA {g:AC} (h:AI g=true) {k:Nat} {v:Int} (hv:g.Values[k]?=some v):0≤v∧v≤2:=by
 unfold AI at h
 simp only [ZE,ZM] at h
 have:=h.1.1 _ (ZH hv)
 unfold inB at this
 simpa using this
theorem Hc {g:AC} (h:AI g=true) {k:Nat} {e:DL} (he:g.Edges[k]?=some e):0≤e.From∧e.From<g.Values.length∧0≤e.To∧e.To<g.Values.length∧0≤e.Label∧e.Label≤2∧1≤e.ID∧e.ID≤99:=by
 unfold AI at h
 simp only [ZE,ZM] at h
 have:=h.1.2 k (ZL.2 (ZP.1 he).1)
 unfold Hx at this
 rw [he] at this
 simp only [ZE] at this
 have:=this.1
 unfold KC inB at this
 simp only [ZE,decide_eq_true_eq] at this
 omega
theorem OO {g:AC} (h:AI g=true) {k:Nat} {e e':DL} (he:g.Edges[k]?=some e) (he':g.Edges[k+1]?=some e'):e.ID<e'.ID:=by
 unfold AI at h
 simp only [ZE,ZM] at h
 have:=h.1.2 (k+1) (ZL.2 (ZP.1 he').1)
 unfold Hx at this
 rw [he'] at this
 simp only [ZE,Nat.add_sub_cancel,he,ZY] at this
 have:=this.2
 simp at this
 omega
theorem Md {g:AC} (h:AI g=true):∀ {d k:Nat} {e e':DL},g.Edges[k]?=some e→g.Edges[k+d+1]?=some e'→e.ID<e'.ID
 | 0,k,e,e',he,he'=>OO h he he'
 | d+1,k,e,e',he,he'=>by
  have hlt:k+d+1<g.Edges.length:=by have:=(ZP.1 he').1;omega
  have h1:=Md h (d:=d) he (ZB hlt)
  have h2:=OO h (ZB hlt) he'
  omega
theorem EO {g:AC} (h:AI g=true) {k:Nat} {e:DL} (he:g.Edges[k]?=some e):CG g e.ID=(k:Int):=by
 unfold CG
 rw [Jo (k:=k) (fun j y hj hy=>?_) he (by simp)]
 · simp
 have h1:=Md h (d:=k-j-1) hy (e':=e) (by rw [show j+(k-j-1)+1=k by omega];exact he)
 simp;omega
theorem Jw {g:AC} (h:AI g=true) {x:Int} {j:Nat} {y:DB} (hy:(AV g x)[j]?=some y):∃ (k:Nat) (e:DL),g.Edges[k]?=some e∧y.step.Edge=e.ID∧y.letter=FB e y.step.Inverse∧y.to=(if y.step.Inverse then e.From else e.To):=by
 have hm:=ZH hy
 unfold AV Fe at hm
 rw [List.mem_flatMap] at hm
 obtain⟨e,he,hm⟩:=hm
 obtain⟨k,hk⟩:=List.getElem?_of_mem he
 refine⟨k,e,hk,?_⟩
 unfold Gk at hm
 rw [List.mem_append] at hm
 rcases hm with hm|hm
 · split at hm
   · rw [Aah] at hm;subst hm;simp
   cases hm
 split at hm
 · rw [Aah] at hm;subst hm;simp
 cases hm
theorem JT {g:AC} (h:AI g=true) {x:Int} {j:Nat} {y:DB} (hy:(AV g x)[j]?=some y):0≤y.letter∧y.letter<6∧0≤y.to∧y.to<g.Values.length:=by
 obtain⟨k,e,he,h1,h2,h3⟩:=Jw h hy
 have:=Hc h he
 rw [h2,h3]
 unfold FB
 cases y.step.Inverse<;>simp<;>omega
theorem Pd {α:Type} (f:Nat→α) (y:α) {n i:Nat}:((ZA n).map f).set i y=(ZA n).map fun x=>if x=i then y else f x:=by
 apply List.ext_getElem?;intro j
 rw [List.getElem?_set]
 simp only [Aai,List.length_range,ZX]
 by_cases e:i=j
 · subst e
   by_cases h:i<n
   · simp [h]
   simp [h]
 rw [if_neg e]
 by_cases h:j<n
 · rw [Aaj h];simp;intro e';exact absurd e'.symm e
 simp [h]
theorem CD {α:Type} (f:Nat→α) {n i:Nat} (h:i<n):((ZA n).map f)[i]?=some (f i):=by
 rw [ZX,Aaj h];rfl
open Go.RowKit
theorem Ga (m:Nat) (hm:m<9223372036854775808):FnT ZC 113 [.one (.v (.int .i64 (m:Int)))] (.a (.one (.sl 1 ((En m).map AQ)))):=by
 refine A8 Aan U (by kernel_rfl) Aao U fun hlen w0=>?_
 try simp [AP,AG,AE] at hlen
 refine Af (An ?_);refine Ch (i:=2) 20001 1 U U ?_;refine Aa (Af (A6 (C7 5 U U U Z9 ty3 U) U ?_));refine Ah ?_;refine Aa (Ae (Af (An ?_)));refine Aa (AW.block ?_);refine B9 (fun (i:Nat)=>(i≤63)∧True) (fun (i:Nat)=>⟨_,[(4,(true,.a (.one (.t (.v (.int .i64 (i:Nat))))))),(3,(true,.a (.one (.rf 5)))),(0,_),(2,_)],[(5,.row 1 ((((ZA i).filter m.testBit).map fun (q:Nat)=>(q:Int)).map AQ))]⟩) (fun (i:Nat)=>64-i) (0) ⟨by omega,Y⟩ Aw ?_
 rintro i ⟨hk,he⟩
 refine Ae (Af (Ab ?_));refine Ab ?_;refine Ac (J3 U (.no U) U (.tm U) (.tm U) (fun _=>by omega)) U ?_;refine AWl.nc ?_;refine Aa (Ai (.tm U) (fun h9=>?_) (fun h9=>?_))
 · try simp only [BE,AN,AM] at h9
   try simp only [ZD] at h9
   try simp at h9
   have hi:i≤62:=by (rcases Aab i 63 with h|h;omega;have:=ZN (n:=2) (by omega) h;omega)
   have hl:((ZA i).filter m.testBit).length≤62:=ZO (ZW _ _) (by simp;omega)
   refine Am (Ae (AW.block (Af (Ab ?_))));refine Ab ?_;refine Ac (J3 U (.no U) U (.tm U) (.tm U) (fun _=>by omega)) U ?_;refine Ac (Hz U (.no U) U (.tm U) (.const U) (fun _=>by first|exact ZQ _|omega)) U ?_;refine Bw ?_;refine Aa (Ai (.tm U) (fun h16=>?_) (fun h16=>?_))
   · try simp only [BE,AN,AM] at h16
     try simp only [ZD] at h16
     try simp at h16
     refine As (Ay [0,2,3,4] [5]) ?_;refine Ad (Ab ?_);refine Ab ?_;refine Bp (Ce (xs:=[.tmp 18]) 19 U U U (.cons (.tm U) U U .nil) Z9 in3 U U U U) U ?_;refine Bt (B8 U U U (.tm U) U (.tm U) (by exact .rf U) (by rfl) Z9 in3 U (by (simp [AH];omega)) (by (unfold maxLen;simp [AH];omega))) U ?_;refine Bv (Ay [0,2,3,4,20] [5,19]) ?_;refine Ah ?_;refine Aa (Ad (Ab ?_));refine A9 ?_;refine Ah ?_;refine Aa ?_
     repeat (with_reducible refine Av ?_)
     refine BF.next (i+1) ⟨by omega,Y⟩ (by omega) (Au rfl ⟨rfl,rfl,rfl,rfl,Y⟩ ⟨congrArg (fun r=>some (R.row 1 r)) (by rw [AY,h16];simp [AH,AQ]),Y⟩)
   try simp only [BE,AN,AM] at h16
   try simp only [ZD] at h16
   try simp at h16
   refine Am (As (Ay [0,2,3,4] [5]) ?_);refine Ad (Ab ?_);refine A9 ?_;refine Ah ?_;refine Aa ?_
   repeat (with_reducible refine Av ?_)
   refine BF.next (i+1) ⟨by omega,Y⟩ (by omega) (Au rfl ⟨rfl,rfl,rfl,rfl,Y⟩ ⟨congrArg (fun r=>some (R.row 1 r)) (by rw [AY,h16];simp),Y⟩)
 try simp only [BE,AN,AM] at h9
 try simp only [ZD] at h9
 try simp at h9
 refine Bf (Af (Ab ?_));refine Ah ?_;refine Aa (Aq (Res.one U (.tmp U .nil) U ?_))
 unfold En;rw [Gv h9 (by omega)];rfl
theorem Jl (a:AA):FnT ZC 108 [.agg (AE a)] (.a (.one (.v (.bool (AJ a))))):=by
 refine A8 Aap U (by kernel_rfl) Aaq U fun hlen w0=>?_
 try simp [AP,AG,AE] at hlen
 refine Af (Ac (Bg U U U (.tm U) (ts:=_) (by rfl)) U ?_);refine An ?_;refine Aa (Af (A7 Db ?_));refine Aj FU ?_;refine Bi (.t) ZI ?_;refine Ah ?_;refine Aa (Ae (Af (Ab ?_)));refine By (CR _ _ _) ?_;refine Cy ?_;refine Ab ?_;refine C5 Jn ?_;refine C4 ty3 ?_;refine AWl.mw ?_;refine Ac (D8 U (by exact .not1 U U U U) U (.tmp U (by exact id)) (.const U) (fun hq=>by first|omega|(simp at hq;omega))) U ?_;refine Ac (Bc (FnT.fr (CR _ _ _)) U (by exact .not1 U U U U) U (.cons (.tmp U (by exact id)) U (.cons (.const U) U (.cons (.tmp U (by exact id)) U .nil)))) U ?_;refine Ac (Du U (by exact .not1 U U U U) U (.tmp U (by exact id))) U ?_;refine Co ?_;refine Ab ?_;refine C5 Da ?_;refine C4 Gh ?_;refine Ac (Di U (by exact .not1 U U U U) U (.tmp U (by exact id)) (by exact .t) ZJ) U ?_;refine AWl.mw ?_
 refine Ac (GX U (by exact .not1 U U U U) U (.tmp U (by exact id)) (.tmp U (by exact id))) U ?_;refine Co ?_;refine Aa (Ai (.tm U) (fun h28=>?_) (fun h28=>?_))
 · try simp at h28
   refine Ae (As (Ay [0,1,2,3] []) ?_);refine Ad (An ?_);refine Aa (Aq (Bl U U ?_))
   congr 1;unfold AJ;revert h28;generalize inB (a.Accept.length:Int) 1 12=b1;generalize inB a.Start 0 (a.Accept.length-1)=b2;cases b1<;>cases b2<;>simp<;>omega
 try simp at h28
 refine Am (Ae (Ae (As (Ay [0,1,2,3] []) ?_)));refine Ad (A7 Da ?_);refine Aj Gh ?_;refine Bi (.t) ZJ ?_;refine Ac (Bh U (.no U) U (.const U)) U ?_;refine Aa (AW.block (De (β:=Nat) (fun x=>x≤(a.Next).length∧∀ j y,j<x→(a.Next)[j]?=some y→(Jb a.Accept.length) y=true) (fun x=>⟨_,[(32,(true,.a (.one (.t (.v (.int .i64 (x:Nat))))))),(3,_),(30,_),(31,_)],[]⟩) (fun x=>(a.Next).length-x) (0) ⟨ZF _,fun j y hj=>absurd hj (ZK j)⟩ (Au U ⟨U,U,U,U,Y⟩ trivial) ?_));intro k hk;refine Af (AWl.lt ?_);refine Aa (Ae (Ai (.tm U) (fun hlt=>?_) (fun hlt=>?_)))
 · try simp at hlt
   obtain⟨x,hx⟩:∃ ξ,(a.Next)[k]?=some ξ:=⟨_,ZB (by exact hlt)⟩
   have hxl:x.length≤9223372036854775807:=by (have h:=Sh.1 hlen.2.2 x (ZH hx);simp only [DV,H0,XK,Aai] at h;exact h.1.1)
   refine Am (Ae (AW.block (Af (Ac ((Ak U (.no U) U (.tm U) (.tm U) ZJ Cc (fun _=>⟨by omega,(by exact Ao (by assumption))⟩))) U ?_))));refine Aj Cc ?_;refine Ah ?_;refine Aa (Ae (Af (Ab ?_)));refine Bi (.t) Z9 ?_;refine Ac (Bh U (.no U) U (.const U)) U ?_;refine Aa (AW.block (De (β:=Nat) (fun ι=>ι≤(x).length∧∀ j y,j<ι→(x)[j]?=some y→(fun t=>inB t (-1) (a.Accept.length-1)) y=true) (fun ι=>⟨_,[(38,(true,.a (.one (.t (.v (.int .i64 (ι:Nat))))))),(3,_),(5,_),(30,_),(31,_),(32,_),(36,_),(37,_)],[]⟩) (fun ι=>(x).length-ι) (0) ⟨ZF _,fun j y hj=>absurd hj (ZK j)⟩ (Au U ⟨U,U,U,U,U,U,U,U,Y⟩ trivial) ?_));intro k1 hk1;refine Af (AWl.lt ?_);refine Aa (Ae (Ai (.tm U) (fun hlt1=>?_) (fun hlt1=>?_)))
   · try simp at hlt1
     obtain⟨x1,hx1⟩:∃ ξ,(x)[k1]?=some ξ:=⟨_,ZB (by exact hlt1)⟩
     refine Am (Ae (AW.block (Af (Ac ((Ak U (.no U) U (.tm U) (.tm U) Z9 ty3 (fun _=>⟨by omega,(by exact Ao (by assumption))⟩))) U ?_))));refine Aj ty3 ?_;refine Ah ?_;refine Aa (Af (Ab ?_));refine Ab ?_;refine C9 ?_;refine By (CR _ _ _) ?_;refine Cy ?_;refine Aa (Ai (.tm U) (fun h46=>?_) (fun h46=>?_))
     · try simp at h46
       refine Ae (As (Ay [3,5,7,30,31,32,36,37,38] []) ?_);refine Ad (An ?_);refine Aa (Aq (Bl U U ?_))
       congr 1;unfold AJ;rw [Gq hx (by unfold Jb;rw [Gq hx1 h46];rfl)];simp
     try simp at h46
     refine Am (As (Ay [3,5,7,30,31,32,36,37,38] []) ?_);refine Ad (A9 ?_);refine Ab ?_;refine Aa ?_;refine EX.next (k1+1) ⟨by omega,DN hk1.2 hx1 (h46)⟩ (by omega) (Au rfl ⟨rfl,rfl,rfl,rfl,rfl,rfl,rfl,rfl,Y⟩ trivial)
   try simp at hlt1
   refine Bf (Af (Ab ?_));refine Bi (.t) Z9 ?_;refine AWl.nc ?_;refine Aa (Ai (.tm U) (fun h50=>?_) (fun h50=>?_))
   · try simp at h50
     refine Af (An ?_);refine Aa (Aq (Bl U U ?_))
     congr 1;unfold AJ;rw [Gq hx (by unfold Jb;rw [decide_eq_false (by omega),Aak])];simp
   try simp at h50
   refine Am (Ad (A9 ?_));refine Ab ?_;refine Aa ?_;refine EX.next (k+1) ⟨by omega,DN hk.2 hx (by unfold Jb;rw [GS hk1.2 (by omega),decide_eq_true (by omega)];rfl)⟩ (by omega) (Au rfl ⟨rfl,rfl,rfl,rfl,Y⟩ trivial)
 try simp at hlt
 refine Bf (Af (An ?_));refine Aa (Aq (Bl U U ?_))
 congr 1;unfold AJ;rw [GS hk.2 (by omega)];revert h28;generalize inB (a.Accept.length:Int) 1 12=b1;generalize inB a.Start 0 (a.Accept.length-1)=b2;cases b1<;>cases b2<;>simp<;>omega
def Oc (a:AA):Bool:=inB a.Start 0 (a.Accept.length-1)&&decide (a.Next.length=a.Accept.length)&&a.Next.all (Jb a.Accept.length)
theorem QU (a:AA):FnT ZC 151 [.agg (AE a)] (.a (.one (.v (.bool (Oc a))))):=by
 refine A8 Aar U (by kernel_rfl) Aas U fun hlen w0=>?_
 try simp [AP,AG,AE] at hlen
 refine Af (Ac (Bg U U U (.tm U) (ts:=_) (by rfl)) U ?_);refine An ?_;refine Aa (Af (A7 Db ?_));refine Aj FU ?_;refine Bi (.t) ZI ?_;refine Ah ?_;refine Aa (Ae (Af (A7 Jn ?_)));refine Aj ty3 ?_;refine Ab ?_;refine C9 ?_;refine By (DR _ _ _) ?_;refine Cy ?_;refine Ab ?_;refine C5 Da ?_;refine C4 Gh ?_;refine Ac (Di U (by exact .not1 U U U U) U (.tmp U (by exact id)) (by exact .t) ZJ) U ?_;refine AWl.mw ?_;refine Ac (GX U (by exact .not1 U U U U) U (.tmp U (by exact id)) (.tmp U (by exact id))) U ?_;refine Co ?_;refine Aa (Ai (.tm U) (fun h21=>?_) (fun h21=>?_))
 · try simp at h21
   refine Ae (As (Ay [0,1,2,3] []) ?_);refine Ad (An ?_);refine Aa (Aq (Bl U U ?_))
   congr 1;unfold Oc;revert h21;generalize inB a.Start 0 (a.Accept.length-1)=b2;cases b2<;>simp<;>omega
 try simp at h21
 have hnl:a.Next.length=a.Accept.length:=by (revert h21;simp;omega)
 refine Am (Ae (Ae (As (Ay [0,1,2,3] []) ?_)));refine Ad (An ?_);refine Aa (AW.block (De (β:=Nat) (fun x=>x≤(a.Next).length∧∀ j y,j<x→(a.Next)[j]?=some y→(Jb a.Accept.length) y=true) (fun x=>⟨_,[(4,(true,.a (.one (.t (.v (.int .i64 (x:Nat))))))),(1,_),(3,_)],[]⟩) (fun x=>(a.Next).length-x) (0) ⟨ZF _,fun j y hj=>absurd hj (ZK j)⟩ (Au U ⟨U,U,U,Y⟩ trivial) ?_));intro k hk;refine Ae (Af (Ab ?_));refine Ab ?_;refine AWl.lt ?_;refine Aa (Ai (.tm U) (fun hlt=>?_) (fun hlt=>?_))
 · try simp at hlt
   obtain⟨x,hx⟩:∃ ξ,(a.Next)[k]?=some ξ:=⟨_,ZB (by omega)⟩
   refine Am (Ae (AW.block (Ae (Af (A7 Da ?_)))));refine Aj Gh ?_;refine Ab ?_;refine Ac ((Ak U (.no U) U (.tm U) (.tm U) ZJ Cc (fun _=>⟨by omega,(by exact Ao (by assumption))⟩))) U ?_;refine Aj Cc ?_;refine Bi (.t) Z9 ?_;refine AWl.nc ?_;refine Aa (Ai (.tm U) (fun h33=>?_) (fun h33=>?_))
   · try simp at h33
     refine Ae (As (Ay [1,3,4] []) ?_);refine Ad (An ?_);refine Aa (Aq (Bl U U ?_))
     congr 1;unfold Oc;rw [Gq hx (by unfold Jb;rw [decide_eq_false (by omega),Aak])];simp
   try simp at h33
   refine Am (Ae (As (Ay [1,3,4] []) ?_));refine Ad (An ?_);refine Aa (AW.block (De (β:=Nat) (fun ι=>ι≤(x).length∧∀ j y,j<ι→(x)[j]?=some y→(fun t=>inB t (-1) (a.Accept.length-1)) y=true) (fun ι=>⟨_,[(5,(true,.a (.one (.t (.v (.int .i64 (ι:Nat))))))),(1,_),(3,_),(4,_)],[]⟩) (fun ι=>(x).length-ι) (0) ⟨ZF _,fun j y hj=>absurd hj (ZK j)⟩ (Au U ⟨U,U,U,U,Y⟩ trivial) ?_));intro k1 hk1;refine Ae (Af (Ab ?_));refine D7 ?_;refine Aa (Ai (.tm U) (fun hlt1=>?_) (fun hlt1=>?_))
   · try simp at hlt1
     obtain⟨x1,hx1⟩:∃ ξ,(x)[k1]?=some ξ:=⟨_,ZB (by omega)⟩
     refine Am (Ae (AW.block (Af (A7 Da ?_))));refine Aj Gh ?_;refine Ab ?_;refine Ac ((Ak U (.no U) U (.tm U) (.tm U) ZJ Cc (fun _=>⟨by omega,(by exact Ao (by assumption))⟩))) U ?_;refine Aj Cc ?_;refine Ab ?_;refine Ac ((Ak U (.no U) U (.tm U) (.tm U) Z9 ty3 (fun _=>⟨by omega,(by exact Ao (by assumption))⟩))) U ?_;refine Aj ty3 ?_;refine Ab ?_;refine C9 ?_;refine By (DR _ _ _) ?_;refine Cy ?_;refine Aa (Ai (.tm U) (fun h49=>?_) (fun h49=>?_))
     · try simp at h49
       refine Ae (As (Ay [1,3,4,5] []) ?_);refine Ad (An ?_);refine Aa (Aq (Bl U U ?_))
       congr 1;unfold Oc;rw [Gq hx (by unfold Jb;rw [Gq hx1 h49];rfl)];simp
     try simp at h49
     refine Am (As (Ay [1,3,4,5] []) ?_);refine Ad (Ab ?_);refine A9 ?_;refine Ah ?_;refine Aa ?_;refine EX.next (k1+1) ⟨by omega,DN hk1.2 hx1 (h49)⟩ (by omega) (Au rfl ⟨rfl,rfl,rfl,rfl,Y⟩ trivial)
   try simp at hlt1
   refine Bf (Ad (Ab ?_));refine A9 ?_;refine Ah ?_;refine Aa ?_;refine EX.next (k+1) ⟨by omega,DN hk.2 hx (by unfold Jb;rw [GS hk1.2 (by omega),decide_eq_true (by omega)];rfl)⟩ (by omega) (Au rfl ⟨rfl,rfl,rfl,Y⟩ trivial)
 try simp at hlt
 refine Bf (Af (An ?_));refine Aa (Aq (Bl U U ?_))
 congr 1;unfold Oc;rw [GS hk.2 (by omega)];revert h21;generalize inB a.Start 0 (a.Accept.length-1)=b2;cases b2<;>simp<;>omega
theorem SW (a:AA):(decide ((a.Accept.length:Int)≤12)&&Oc a)=AJ a:=by
 unfold Oc AJ inB
 rw [Bool.eq_iff_iff]
 simp only [ZE,decide_eq_true_eq]
 constructor
 · rintro⟨h1,⟨⟨h2,h3⟩,h4⟩,h5⟩;exact⟨⟨⟨⟨by omega,h1⟩,h2,h3⟩,h4⟩,h5⟩
 rintro⟨⟨⟨⟨h0,h1⟩,h2,h3⟩,h4⟩,h5⟩;exact⟨h1,⟨⟨h2,h3⟩,h4⟩,h5⟩
theorem FW (a:AA):FnT ZC 100 [.agg (AE a)] (.a (.one (.v (.bool (AJ a))))):=by
 refine A8 Aat U (by kernel_rfl) Aau U fun hlen w0=>?_
 try simp [AP,AG,AE] at hlen
 refine Af (Ac (Bg U U U (.tm U) (ts:=_) (by rfl)) U ?_);refine An ?_;refine Aa (Af (A7 Db ?_));refine Aj FU ?_;refine Bi (.t) ZI ?_;refine Ac (MN U (.no U) U (.tm U) (.const U)) U ?_;refine Ab ?_;refine Ac (Br U (by exact .yes1 U U U U) U (.tmp U (by exact fun _=>rfl)) B6 U U) U ?_;refine Ac (Bc (FnT.fr (QU _)) U (by exact .yes1 U U U U) U (.cons (.tmp U (by exact id)) U .nil)) U ?_;refine Cn ?_;refine Ah ?_;refine Aa (Aq (Bl U U ?_))
 rw [←SW]
theorem R2 (a:AA) (ha:AJ a=true) (s k:Int) (hs:s<a.Accept.length) (hk:0≤k∧k<9):FnT ZC 161 [.agg (AE a),.one (.v (.int .i64 s)),.one (.v (.int .i64 k))] (.a (.one (.v (.int .i64 (if s<0 then -1 else CJ a s k))))):=by
 refine A8 Aav U (by kernel_rfl) Aaw U fun hlen w0=>?_
 try simp [AP,AG,AE] at hlen
 have hin:inB k 0 8=true:=by unfold inB;simp;omega
 refine Af (Ac (Bg U U U (.tm U) (ts:=_) (by rfl)) U ?_);refine An ?_;refine Aa (Ae (Af (Ab ?_)));refine D7 ?_;refine Ab ?_;refine AWl.mw ?_;refine Ac (Bc (FnT.fr (Qg _)) U (by exact .not1 U U U U) U (.cons (.tmp U (by exact id)) U .nil)) U ?_;refine Ac (Du U (by exact .not1 U U U U) U (.tmp U (by exact id))) U ?_;refine Co ?_;refine Aa (Ai (.tm U) (fun h13=>?_) (fun h13=>?_))
 · try simp at h13
   rw [hin] at h13;simp at h13
   refine Ae (As (Ay [0,1,2,3,6] []) ?_);refine Ad (An ?_);refine Aa (Aq (Bl U U ?_))
   rw [if_pos (by omega)]
 try simp at h13
 rw [hin] at h13;simp at h13;obtain⟨row,hr1,hr2,hr3,hr4⟩:=Ex ha (s:=s) (k:=k) (by omega) hs hk.1 hk.2
 refine Am (Ae (As (Ay [0,1,2,3,6] []) ?_));refine Ad (A7 Da ?_);refine Aj Gh ?_;refine Ab ?_;refine Ac (Ak U (.no U) U (.tm U) (.tm U) ZJ Cc (fun _=>⟨by omega,(by exact Ao hr1)⟩)) U ?_;refine Aj Cc ?_;refine Ab ?_;refine Ac (Ak U (.no U) U (.tm U) (.tm U) Z9 ty3 (fun _=>⟨by omega,(by exact Ao hr3)⟩)) U ?_;refine Aj ty3 ?_;refine Ah ?_;refine Aa (Aq (Bl U U ?_))
 rw [if_neg (by omega)]
theorem U6 (a:AA) (ha:AJ a=true) (t:Nat) (k:Int) (ht:t<a.Accept.length) (hk:0≤k∧k<9):FnT ZC 161 [.agg (AE a),.one (.v (.int .i64 (t:Int))),.one (.v (.int .i64 k))] (.a (.one (.v (.int .i64 (CJ a t k))))):=by
 have:=R2 a ha (t:Int) k (by omega) hk
 rwa [if_neg (by omega)] at this
theorem M0 (a:AA) (ha:AJ a=true) (s v:Int) (hst:-1≤s∧s<a.Accept.length) (hv:0≤v∧v≤2):FnT ZC 160 [.agg (AE a),.one (.v (.int .i64 s)),.one (.v (.int .i64 v))] (.a (.one (.v (.int .i64 (BS a s v:Nat))))):=by
 refine A8 Aax U (by kernel_rfl) Aay U fun hlen w0=>?_
 try simp [AP,AG,AE] at hlen
 have hA:=AR ha
 have hP:=DC ha
 refine Af (Ac (Bg U U U (.tm U) (ts:=_) (by rfl)) U ?_);refine An ?_;refine Aa (Af (An ?_));refine Aa (Ae (Af (Ab ?_)));refine Ah ?_;refine Aa (AW.block (Dz (fun (x:Int) (m:Nat) (f:Nat)=>(Kd a.Accept.length m<f∧m<2^a.Accept.length∧ -1≤x∧x<a.Accept.length)∧BS a s v=Oh a v f x m) (fun (x:Int) (m:Nat) (f:Nat)=>⟨_,[(8,(true,.a (.one (.t (.v (.int .i64 x)))))),(7,(true,.a (.one (.t (.v (.int .i64 (m:Nat))))))),(2,_),(3,_),(6,_)],[]⟩) (fun (x:Int) (m:Nat) (f:Nat)=>f) (s) (0) (a.Accept.length+1) ⟨⟨by have:=Nk 0 a.Accept.length;omega,ZG _,hst.1,hst.2⟩,U⟩ (Au U ⟨U,U,U,U,U,Y⟩ trivial) ?_))
 rintro x m f ⟨hk,he⟩
 refine Ae (Af (Ab ?_));refine AWl.gd ?_;refine Ab ?_;refine Cm ?_;refine Cm ?_;refine Ac (J3 U (by exact .yes1 U U U U) U (.tmp U (by exact id)) (.tmp U (by exact id)) (fun hq=>by first|omega|(simp at hq;omega))) U ?_;refine Ac (Hz U (by exact .yes1 U U U U) U (.tmp U (by exact id)) (.const U) (fun _=>by first|exact ZQ _|omega)) U ?_;refine Ac (Kc U (by exact .yes1 U U U U) U (.tmp U (by exact id)) (.const U)) U ?_;refine Cn ?_;refine Aa (Ai (.tm U) (fun h18=>?_) (fun h18=>?_))
 · try simp only [BE,AN,AM] at h18
   try simp only [ZD] at h18
   try simp at h18
   obtain⟨hx0,hbit⟩:0≤x∧m.testBit x.toNat=false:=h18
   obtain⟨f',rfl⟩:∃ f',f=f'+1:=⟨f-1,by omega⟩
   have h2x:=K3 ha (x:=x.toNat) (by omega)
   have h2p:=ZG x.toNat
   have hun:=Nj (n:=a.Accept.length) hbit (by omega)
   obtain⟨_,_,_,_,hn1,hn2⟩:=Ex ha (s:=x) (k:=6+v) hx0 hk.2.2.2 (by omega) (by omega)
   refine Am (Ae (AW.block (As (Ay [2,3,6,7,8] []) ?_)));refine Ad (Ab ?_);refine Ab ?_;refine Ac (F9 U (.no U) U (.const U) (.tm U) (fun _=>by omega)) U ?_;refine Ac (HN U (.no U) U (.tm U) (.tm U) (fun _=>by omega)) U ?_;refine Ah ?_;refine Aa (Ad (Aj B6 ?_));refine Ab ?_;refine Ab ?_;refine Ac (Dn U (.no U) U (.const U) (.tm U) (fun _=>by omega)) U ?_;refine Ac (Bc (FnT.fr (R2 a ha _ _ hk.2.2.2 (by omega))) U (.no U) U (.cons (.tm U) U (.cons (.tm U) U (.cons (.tm U) U .nil)))) U ?_;refine Ah ?_;refine Aa ?_
   repeat (with_reducible refine Av ?_)
   refine Ef.next ((if x<0 then -1 else CJ a x (6+v))) (m|||2^x.toNat) (f') ⟨⟨by omega,Fp hk.2.1 (by omega),by rw [if_neg (by omega)];exact hn1,by rw [if_neg (by omega)];exact hn2⟩,by rw [he,TS hx0 hbit,if_neg (by omega)]⟩ (by omega) (Au rfl ⟨rfl,rfl,rfl,rfl,rfl,Y⟩ trivial)
 try simp only [BE,AN,AM] at h18
 try simp only [ZD] at h18
 try simp at h18
 refine Bf (Ae (As (Ay [2,3,6,7,8] []) ?_));refine Ad (Ab ?_);refine Ah ?_;refine Aa (Aq (Bl U U ?_))
 rw [he];obtain⟨f',rfl⟩:∃ f',f=f'+1:=⟨f-1,by omega⟩;rw [Pz (by rcases Aal x 0 with h|h;exact .inl h;exact .inr (h18 h))]
theorem GJ (a:AA) (ha:AJ a=true) (s v:Int) (hst:-1≤s∧s<a.Accept.length) (hv:0≤v∧v≤2):FnT ZC 166 [.agg (AE a),.one (.v (.int .i64 s)),.one (.v (.int .i64 v))] (.a (.one (.v (.int .i64 (BS a s v:Nat))))):=by
 refine A8 Aaz U (by kernel_rfl) Aba U fun hlen w0=>?_
 try simp [AP,AG,AE] at hlen
 have hA:=AR ha
 have hP:=DC ha
 refine Af (Ac (Bg U U U (.tm U) (ts:=_) (by rfl)) U ?_);refine An ?_;refine Aa (Af (An ?_));refine Aa (Ae (AW.block (Dz (fun (x:Int) (m:Nat) (f:Nat)=>(Kd a.Accept.length m<f∧m<2^a.Accept.length∧ -1≤x∧x<a.Accept.length)∧BS a s v=Oh a v f x m) (fun (x:Int) (m:Nat) (f:Nat)=>⟨_,[(1,(true,.a (.one (.t (.v (.int .i64 x)))))),(7,(true,.a (.one (.t (.v (.int .i64 (m:Nat))))))),(2,_),(3,_),(6,_)],[]⟩) (fun (x:Int) (m:Nat) (f:Nat)=>f) (s) (0) (a.Accept.length+1) ⟨⟨by have:=Nk 0 a.Accept.length;omega,ZG _,hst.1,hst.2⟩,U⟩ (Au U ⟨U,U,U,U,U,Y⟩ trivial) ?_)))
 rintro x m f ⟨hk,he⟩
 refine Ae (Af (Ab ?_));refine AWl.gd ?_;refine Ab ?_;refine Cm ?_;refine Cm ?_;refine Ac (J3 U (by exact .yes1 U U U U) U (.tmp U (by exact id)) (.tmp U (by exact id)) (fun hq=>by first|omega|(simp at hq;omega))) U ?_;refine Ac (Hz U (by exact .yes1 U U U U) U (.tmp U (by exact id)) (.const U) (fun _=>by first|exact ZQ _|omega)) U ?_;refine Ac (Kc U (by exact .yes1 U U U U) U (.tmp U (by exact id)) (.const U)) U ?_;refine Cn ?_;refine Aa (Ai (.tm U) (fun h16=>?_) (fun h16=>?_))
 · try simp only [BE,AN,AM] at h16
   try simp only [ZD] at h16
   try simp at h16
   obtain⟨hx0,hbit⟩:0≤x∧m.testBit x.toNat=false:=h16
   obtain⟨f',rfl⟩:∃ f',f=f'+1:=⟨f-1,by omega⟩
   have h2x:=K3 ha (x:=x.toNat) (by omega)
   have h2p:=ZG x.toNat
   have hun:=Nj (n:=a.Accept.length) hbit (by omega)
   obtain⟨row,hr1,hr2,hr3,hn1,hn2⟩:=Ex ha (s:=x) (k:=6+v) hx0 hk.2.2.2 (by omega) (by omega)
   refine Am (AW.block (Ae (As (Ay [1,2,3,6,7] []) ?_)));refine Ad (Ab ?_);refine Ab ?_;refine Ac (F9 U (.no U) U (.const U) (.tm U) (fun _=>by omega)) U ?_;refine Ac (HN U (.no U) U (.tm U) (.tm U) (fun _=>by omega)) U ?_;refine Ah ?_;refine Aa (Ad (A7 Da ?_));refine Aj Gh ?_;refine Ab ?_;refine Ac (Ak U (.no U) U (.tm U) (.tm U) ZJ Cc (fun _=>⟨by omega,(by exact Ao hr1)⟩)) U ?_;refine Aj Cc ?_;refine Ab ?_;refine Ac (Dn U (.no U) U (.const U) (.tm U) (fun _=>by omega)) U ?_;refine Ac (Ak U (.no U) U (.tm U) (.tm U) Z9 ty3 (fun _=>⟨by omega,(by exact Ao hr3)⟩)) U ?_;refine Aj ty3 ?_;refine Ah ?_;refine Aa ?_
   repeat (with_reducible refine Av ?_)
   refine Ef.next (CJ a x (6+v)) (m|||2^x.toNat) (f') ⟨⟨by omega,Fp hk.2.1 (by omega),hn1,hn2⟩,by rw [he,TS hx0 hbit]⟩ (by omega) (Au rfl ⟨rfl,rfl,rfl,rfl,rfl,Y⟩ trivial)
 try simp only [BE,AN,AM] at h16
 try simp only [ZD] at h16
 try simp at h16
 refine Bf (Ae (As (Ay [1,2,3,6,7] []) ?_));refine Ad (Ab ?_);refine Ah ?_;refine Aa (Aq (Bl U U ?_))
 rw [he];obtain⟨f',rfl⟩:∃ f',f=f'+1:=⟨f-1,by omega⟩;rw [Pz (by rcases Aal x 0 with h|h;exact .inl h;exact .inr (h16 h))]
theorem IV (g:AC) (a:AA) (ha:AJ a=true) (hg:AI g=true) (x s v:Int) (hx:0≤x) (hxv:g.Values[x.toNat]?=some v) (hst:0≤s∧s<a.Accept.length):FnT ZC 122 [.agg (AG g),.agg (AE a),.one (.v (.int .i64 x)),.one (.v (.int .i64 s))] (.a (.one (.v (.bool (acc a s v))))):=by
 refine A8 Abb U (by kernel_rfl) Abc U fun hlen w0=>?_
 try simp [AP,AG,AE] at hlen
 have hA:=AR ha
 have hv:=GA hg hxv
 have hcl:=Fh ha hv hst.2
 have hP:=DC ha
 refine Af (Ac (Bg U U U (.tm U) (ts:=_) (by rfl)) U ?_);refine Ac (Bg U U U (.tm U) (ts:=_) (by rfl)) U ?_;refine An ?_;refine Aa (Ae (Bx 9 (DM [[],[],[],[2],[],[2,3,4],[2,3,4,5],[0,1,2,3,4,5,6],[0,1,2,3,4,5,6,7]]) (by kernel_rfl) (by kernel_rfl) (by kernel_rfl) ?_));refine A5 B6 ?_;refine Az ?_;refine Bz Ci ?_;refine A5 Cc ?_;refine Az ?_;refine AB.s (fun _ hs=>(Ak U (.no U) (Ag hs U) (hs.tm U) (hs.tm U) Z9 ty3 (fun _=>⟨by omega,Ao hxv⟩))) ?_;refine A5 ty3 ?_;refine AB.s (fun _ hs=>Bc (FnT.fr (GJ a ha s v ⟨by omega,hst.2⟩ hv)) U (.no U) (Ag hs U) (.cons (hs.tm U) (AD hs U) (.cons (hs.tm U) (AD hs U) (.cons (hs.tm U) (AD hs U) .nil)))) ?_;refine AB.s (fun _ hs=>Cl U (.no U) (Ag hs U) (hs.tm U)) ?_;refine Bs U U ?_;refine Aa (Ae (Ae (As (Ay [0,1,2,3,4,5,8,9] []) ?_)));refine Ad (An ?_)
 refine Aa (AW.block (B9 (fun (k:Nat)=>(k≤a.Accept.length∧∀ j,j<k→((BS a s v).testBit j&&Oo a j)=false)∧True) (fun (k:Nat)=>⟨_,[(10,(true,.a (.one (.t (.v (.int .i64 (k:Nat))))))),(5,_),(9,_)],[]⟩) (fun (k:Nat)=>a.Accept.length-k) (0) ⟨⟨ZF _,fun j hj=>absurd hj (ZK j)⟩,Y⟩ (Au U ⟨U,U,U,Y⟩ trivial) ?_))
 rintro k ⟨hk,he⟩
 refine Ae (Af (Ab ?_));refine A7 Db ?_;refine Aj FU ?_;refine Bi (.t) ZI ?_;refine AWl.lt ?_;refine Aa (Ai (.tm U) (fun h23=>?_) (fun h23=>?_))
 · try simp only [BE,AN,AM] at h23
   try simp only [ZD] at h23
   try simp at h23
   refine Am (Ae (AW.block (Af (Ab ?_))));refine Ab ?_;refine Ac (J3 U (.no U) U (.tm U) (.tm U) (fun _=>by omega)) U ?_;refine Ac (Hz U (.no U) U (.tm U) (.const U) (fun _=>by first|exact ZQ _|omega)) U ?_;refine Bw ?_;refine Ab ?_;refine Eb Db ?_;refine Dy FU ?_;refine Cm ?_;refine Ac ((Ak U (by exact .yes1 U U U U) U (.tmp U (by exact id)) (.tmp U (by exact id)) ZI ty4 (fun _=>⟨by omega,Ao (l:=a.Accept) (x:=Oo a k) (FN (by omega))⟩))) U ?_;refine Dy ty4 ?_;refine Cn ?_;refine Aa (Ai (.tm U) (fun h37=>?_) (fun h37=>?_))
   · skip
     simp only [BE] at h37;simp only [ZD] at h37
     refine Ae (As (Ay [5,9,10] []) ?_);refine Ad (An ?_);refine Aa (Aq (Bl U U ?_))
     rw [Wn hcl (by omega),Pf (by omega) h37]
   skip
   simp only [BE] at h37;simp only [ZD] at h37
   refine Am (As (Ay [5,9,10] []) ?_);refine Ad (Ab ?_);refine A9 ?_;refine Ah ?_;refine Aa ?_
   repeat (with_reducible refine Av ?_)
   refine BF.next (k+1) ⟨⟨by omega,Kj hk.2 h37⟩,Y⟩ (by omega) (Au rfl ⟨rfl,rfl,rfl,Y⟩ trivial)
 try simp only [BE,AN,AM] at h23
 try simp only [ZD] at h23
 try simp at h23
 refine Bf (Af (An ?_));refine Aa (Aq (Bl U U ?_))
 rw [Wn hcl (by omega),NB (by omega) hk.2]
theorem Km (a:AA) (ha:AJ a=true) (m:Nat) (hm:m<2^a.Accept.length) (v:Int) (hv:0≤v∧v≤2):FnT ZC 163 [.agg (AE a),.one (.v (.int .i64 (m:Int))),.one (.v (.int .i64 v))] (.a (.one (.v (.bool (Hy a m v))))):=by
 refine A8 Abd U (by kernel_rfl) Abe U fun hlen w0=>?_
 try simp [AP,AG,AE] at hlen
 have hA:=AR ha
 have hP:=DC ha
 have hbl:=Jt m
 refine Af (Ac (Bg U U U (.tm U) (ts:=_) (by rfl)) U ?_);refine An ?_;refine Aa (Ae (Af (Ab ?_)));refine Ac (Bc (FnT.fr (Ga m (by omega))) U (.no U) U (.cons (.tm U) U .nil)) U ?_;refine Bi (.t) Z9 ?_;refine Ac (Bh U (.no U) U (.const U)) U ?_;refine Aa (AW.block (De (β:=Nat) (fun x=>x≤(En m).length∧∀ j y,j<x→(En m)[j]?=some y→(fun s=>!acc a s v) y=true) (fun x=>⟨_,[(14,(true,.a (.one (.t (.v (.int .i64 (x:Nat))))))),(2,_),(3,_),(12,_),(13,_)],[]⟩) (fun x=>(En m).length-x) (0) ⟨ZF _,fun j y hj=>absurd hj (ZK j)⟩ (Au U ⟨U,U,U,U,U,Y⟩ trivial) ?_));intro k hk;refine Af (AWl.lt ?_);refine Aa (Ae (Ai (.tm U) (fun hlt=>?_) (fun hlt=>?_)))
 · try simp at hlt
   obtain⟨x,hx⟩:∃ ξ,(En m)[k]?=some ξ:=⟨_,ZB (by exact hlt)⟩
   obtain⟨q,rfl,hq⟩:=Ju hx
   have hqn:=ES hm (ZH hq)
   have hcl:=Fh ha (s:=(q:Int)) hv (by omega)
   have hbc:=Jt (BS a q v)
   refine Am (Ae (AW.block (Af (Ac ((Ak U (.no U) U (.tm U) (.tm U) Z9 ty3 (fun _=>⟨by omega,(by exact Ao (by assumption))⟩))) U ?_))));refine Aj ty3 ?_;refine Ah ?_;refine Aa (Af (Aj B6 ?_));refine Ab ?_;refine Ab ?_;refine Ac (Bc (FnT.fr (M0 a ha _ _ (by omega) hv)) U (.no U) U (.cons (.tm U) U (.cons (.tm U) U (.cons (.tm U) U .nil)))) U ?_;refine Ac (Bc (FnT.fr (Ga (BS a q v) (by omega))) U (.no U) U (.cons (.tm U) U .nil)) U ?_;refine Bi (.t) Z9 ?_;refine Ac (Bh U (.no U) U (.const U)) U ?_
   refine Aa (AW.block (De (β:=Nat) (fun x=>x≤(En (BS a q v)).length∧∀ j y,j<x→(En (BS a q v))[j]?=some y→(fun t=>!Oo a t.toNat) y=true) (fun x=>⟨_,[(24,(true,.a (.one (.t (.v (.int .i64 (x:Nat))))))),(2,_),(3,_),(12,_),(13,_),(14,_),(22,_),(23,_)],[]⟩) (fun x=>(En (BS a q v)).length-x) (0) ⟨ZF _,fun j y hj=>absurd hj (ZK j)⟩ (Au U ⟨U,U,U,U,U,U,U,U,Y⟩ trivial) ?_));intro k1 hk1;refine Af (AWl.lt ?_);refine Aa (Ae (Ai (.tm U) (fun hlt1=>?_) (fun hlt1=>?_)))
   · try simp at hlt1
     obtain⟨x1,hx1⟩:∃ ξ,(En (BS a q v))[k1]?=some ξ:=⟨_,ZB (by exact hlt1)⟩
     obtain⟨t,rfl,ht⟩:=Ju hx1
     have htn:=ES hcl (ZH ht)
     refine Am (Ae (AW.block (Af (Ac ((Ak U (.no U) U (.tm U) (.tm U) Z9 ty3 (fun _=>⟨by omega,(by exact Ao (by assumption))⟩))) U ?_))));refine Aj ty3 ?_;refine Ah ?_;refine Aa (Af (A7 Db ?_));refine Aj FU ?_;refine Ab ?_;refine Ac ((Ak U (.no U) U (.tm U) (.tm U) ZI ty4 (fun _=>⟨by omega,Ao (l:=a.Accept) (x:=Oo a t) (FN (by omega))⟩))) U ?_;refine Aj ty4 ?_;refine Aa (Ai (.tm U) (fun h32=>?_) (fun h32=>?_))
     · try simp at h32
       refine Ae (As (Ay [2,3,10,12,13,14,22,23,24] []) ?_);refine Ad (An ?_);refine Aa (Aq (Bl U U ?_))
       rw [Wp,Wi hx (by rw [XZ];exact Wi hx1 h32)]
     try simp at h32
     refine Am (As (Ay [2,3,10,12,13,14,22,23,24] []) ?_);refine Ad (A9 ?_);refine Ab ?_;refine Aa ?_;refine EX.next (k1+1) ⟨by omega,DN hk1.2 hx1 (by rw [ZD,h32];rfl)⟩ (by omega) (Au rfl ⟨rfl,rfl,rfl,rfl,rfl,rfl,rfl,rfl,Y⟩ trivial)
   try simp at hlt1
   refine Bf (Ad (A9 ?_));refine Ab ?_;refine Aa ?_;refine EX.next (k+1) ⟨by omega,DN hk.2 hx (by rw [XZ,RS hk1.2 (by omega)];rfl)⟩ (by omega) (Au rfl ⟨rfl,rfl,rfl,rfl,rfl,Y⟩ trivial)
 try simp at hlt
 refine Bf (Af (An ?_));refine Aa (Aq (Bl U U ?_))
 rw [Wp,RS hk.2 (by omega)]
theorem Pr (a:AA) (ha:AJ a=true) (m:Nat) (hm:m<2^a.Accept.length) (v k:Int) (hv:0≤v∧v≤2) (hkk:0≤k∧k<9):FnT ZC 114 [.agg (AE a),.one (.v (.int .i64 (m:Int))),.one (.v (.int .i64 v)),.one (.v (.int .i64 k))] (.a (.one (.v (.int .i64 (DX a m v k:Nat))))):=by
 refine A8 Abf U (by kernel_rfl) Abg U fun hlen w0=>?_
 try simp [AP,AG,AE] at hlen
 have hA:=AR ha
 have hP:=DC ha
 have hbl:=Jt m
 refine Af (Ac (Bg U U U (.tm U) (ts:=_) (by rfl)) U ?_);refine An ?_;refine Aa (Af (An ?_));refine Aa (Ae (Af (Ab ?_)));refine Ac (Bc (FnT.fr (Ga m (by omega))) U (.no U) U (.cons (.tm U) U .nil)) U ?_;refine Bi (.t) Z9 ?_;refine Ac (Bh U (.no U) U (.const U)) U ?_;refine Aa (AW.block (Cp (fun (i:Nat) (o:Nat)=>(i≤(En m).length∧o<2^a.Accept.length)∧o=((DA m).take i).foldl (fun out (s:Nat)=>FJ a k (DA (BS a s v)) out) 0) (fun (i:Nat) (o:Nat)=>⟨_,[(18,(true,.a (.one (.t (.v (.int .i64 (i:Nat))))))),(9,(true,.a (.one (.t (.v (.int .i64 (o:Nat))))))),(2,_),(3,_),(4,_),(8,_),(16,_),(17,_)],[]⟩) (fun (i:Nat) (o:Nat)=>(En m).length-i) (0) (0) ⟨⟨ZF _,ZG _⟩,U⟩ (Au U ⟨U,U,U,U,U,U,U,U,Y⟩ trivial) ?_))
 rintro i o ⟨hk,he⟩
 refine Af (AWl.lt ?_);refine Aa (Ae (Ai (.tm U) (fun h19=>?_) (fun h19=>?_)))
 · try simp at h19
   obtain⟨x,hx⟩:∃ ξ,(En m)[i]?=some ξ:=⟨_,ZB (by omega)⟩
   obtain⟨q,rfl,hq⟩:=Ju hx
   have hqn:=ES hm (ZH hq)
   have hcl:=Fh ha (s:=(q:Int)) hv (by omega)
   have hbc:=Jt (BS a q v)
   refine Am (Ae (AW.block (Af (Ac (Ak U (.no U) U (.tm U) (.tm U) Z9 ty3 (fun _=>⟨by omega,(by exact Ao hx)⟩)) U ?_))));refine Aj ty3 ?_;refine Ah ?_;refine Aa (Af (Aj B6 ?_));refine Ab ?_;refine Ab ?_;refine Ac (Bc (FnT.fr (M0 a ha _ _ (by omega) hv)) U (.no U) U (.cons (.tm U) U (.cons (.tm U) U (.cons (.tm U) U .nil)))) U ?_;refine Ac (Bc (FnT.fr (Ga (BS a q v) (by omega))) U (.no U) U (.cons (.tm U) U .nil)) U ?_;refine Bi (.t) Z9 ?_;refine Ac (Bh U (.no U) U (.const U)) U ?_
   refine Aa (AW.block (Cp (fun (j:Nat) (p:Nat)=>(j≤(En (BS a q v)).length∧p<2^a.Accept.length)∧p=FJ a k ((DA (BS a q v)).take j) o) (fun (j:Nat) (p:Nat)=>⟨_,[(28,(true,.a (.one (.t (.v (.int .i64 (j:Nat))))))),(9,(true,.a (.one (.t (.v (.int .i64 (p:Nat))))))),(2,_),(3,_),(4,_),(8,_),(16,_),(17,_),(18,_),(26,_),(27,_)],[]⟩) (fun (j:Nat) (p:Nat)=>(En (BS a q v)).length-j) (0) (o) ⟨⟨ZF _,hk.2⟩,by simp [FJ]⟩ (Au U ⟨U,U,U,U,U,U,U,U,U,U,U,Y⟩ trivial) ?_))
   rintro j p ⟨hk1,he1⟩
   refine Af (AWl.lt ?_);refine Aa (Ae (Ai (.tm U) (fun h29=>?_) (fun h29=>?_)))
   · try simp at h29
     obtain⟨y,hy⟩:∃ ξ,(En (BS a q v))[j]?=some ξ:=⟨_,ZB (by omega)⟩
     obtain⟨t,rfl,ht⟩:=Ju hy
     have htn:=ES hcl (ZH ht)
     obtain⟨_,_,_,_,hn1,hn2⟩:=Ex ha (s:=(t:Int)) (k:=k) (by omega) (by omega) hkk.1 hkk.2
     refine Am (Ae (AW.block (Af (Ac (Ak U (.no U) U (.tm U) (.tm U) Z9 ty3 (fun _=>⟨by omega,(by exact Ao hy)⟩)) U ?_))));refine Aj ty3 ?_;refine Ah ?_;refine Aa (Af (Aj B6 ?_));refine Ab ?_;refine Ab ?_;refine By (U6 a ha t k htn hkk) ?_;refine Ah ?_;refine Aa (Ae (As (Ay [2,3,4,8,9,13,14,16,17,18,26,27,28] []) ?_));refine Ad (Ab ?_);refine AWl.gd ?_;refine Aa (Ai (.tm U) (fun h37=>?_) (fun h37=>?_))
     · try simp at h37
       have h2x:=K3 ha (x:=(CJ a t k).toNat) (by omega)
       have h2p:=ZG (CJ a t k).toNat
       refine Ad (Ab ?_);refine Ab ?_;refine Ac (F9 U (.no U) U (.const U) (.tm U) (fun _=>by omega)) U ?_;refine Ac (HN U (.no U) U (.tm U) (.tm U) (fun _=>by omega)) U ?_;refine Ah ?_;refine Aa (As (Ay [2,3,4,8,9,13,14,16,17,18,26,27,28] []) ?_);refine Ad (A9 ?_);refine Ab ?_;refine Aa ?_
       repeat (with_reducible refine Av ?_)
       refine BV.next (j+1) (p|||2^(CJ a t k).toNat) ⟨⟨by omega,Fp hk1.2 (by omega)⟩,by rw [Ua ht,if_pos h37,he1]⟩ (by omega) (Au rfl ⟨rfl,rfl,rfl,rfl,rfl,rfl,rfl,rfl,rfl,rfl,rfl,Y⟩ trivial)
     try simp at h37
     refine Am (Ad (A9 ?_));refine Ab ?_;refine Aa ?_
     repeat (with_reducible refine Av ?_)
     refine BV.next (j+1) (p) ⟨⟨by omega,hk1.2⟩,by rw [Ua ht,if_neg (by omega),he1]⟩ (by omega) (Au rfl ⟨rfl,rfl,rfl,rfl,rfl,rfl,rfl,rfl,rfl,rfl,rfl,Y⟩ trivial)
   try simp at h29
   refine Bf (Ad (A9 ?_));refine Ab ?_;refine Aa ?_
   repeat (with_reducible refine Av ?_)
   refine BV.next (i+1) (p) ⟨⟨by omega,hk1.2⟩,by rw [XE hq,←he,he1,Aam (by have:=JR (BS a q v);omega)]⟩ (by omega) (Au rfl ⟨rfl,rfl,rfl,rfl,rfl,rfl,rfl,rfl,Y⟩ trivial)
 try simp at h19
 refine Bf (Af (Ab ?_));refine Ah ?_;refine Aa (Aq (Bl U U ?_))
 rw [he,Aam (by have:=JR m;omega)];rfl
theorem NW (g:AC) (a:AA) (l:List Int):FnT ZC 53 [.agg (AG g),.agg (AE a),.one (.sl 1 (l.map AQ))] (.a (.one (.v (.bool (II g a l))))):=by
 refine A8 Abh U (by kernel_rfl) Abi U fun hlen w0=>?_
 try simp [AP,AG,AE] at hlen
 skip
 refine Af (Ac (Bg U U U (.tm U) (ts:=_) (by rfl)) U ?_);refine Ac (Bg U U U (.tm U) (ts:=_) (by rfl)) U ?_;refine An ?_;refine Aa (Ae (Af (Ab ?_)));refine Bi (.t) Z9 ?_;refine Ac (Bh U (.no U) U (.const U)) U ?_;refine Aa (AW.block (De (β:=Nat) (fun x=>x≤(l).length∧∀ j y,j<x→(l)[j]?=some y→(fun x=>inB x 0 (g.Values.length-1)) y=true) (fun x=>⟨_,[(11,(true,.a (.one (.t (.v (.int .i64 (x:Nat))))))),(3,_),(4,_),(9,_),(10,_)],[]⟩) (fun x=>(l).length-x) (0) ⟨ZF _,fun j y hj=>absurd hj (ZK j)⟩ (Au U ⟨U,U,U,U,U,Y⟩ trivial) ?_));intro k hk;refine Af (AWl.lt ?_);refine Aa (Ae (Ai (.tm U) (fun hlt=>?_) (fun hlt=>?_)))
 · try simp at hlt
   obtain⟨x,hx⟩:∃ ξ,(l)[k]?=some ξ:=⟨_,ZB (by exact hlt)⟩
   refine Am (Ae (AW.block (Af (Ac ((Ak U (.no U) U (.tm U) (.tm U) Z9 ty3 (fun _=>⟨by omega,(by exact Ao (by assumption))⟩))) U ?_))));refine Aj ty3 ?_;refine Ah ?_;refine Aa (Af (Ab ?_));refine A7 Ci ?_;refine Aj Cc ?_;refine Bi (.t) Z9 ?_;refine C9 ?_;refine By (CR _ _ _) ?_;refine Cy ?_;refine Aa (Ai (.tm U) (fun h21=>?_) (fun h21=>?_))
   · try simp at h21
     refine Ae (As (Ay [3,4,8,9,10,11] []) ?_);refine Ad (An ?_);refine Aa (Aq (Bl U U ?_))
     unfold II;rw [Gq hx h21];rfl
   try simp at h21
   refine Am (As (Ay [3,4,8,9,10,11] []) ?_);refine Ad (A9 ?_);refine Ab ?_;refine Aa ?_;refine EX.next (k+1) ⟨by omega,DN hk.2 hx (h21)⟩ (by omega) (Au rfl ⟨rfl,rfl,rfl,rfl,rfl,Y⟩ trivial)
 try simp at hlt
 refine Bf (Af (Aj B7 ?_));refine By (FG _) ?_;refine Ab ?_;refine Ac (Br U (by exact .yes1 U U U U) U (.tmp U (by exact fun _=>rfl)) B6 U U) U ?_;refine Ac (Bc (FnT.fr (Jl _)) U (by exact .yes1 U U U U) U (.cons (.tmp U (by exact id)) U .nil)) U ?_;refine Cn ?_;refine Ah ?_;refine Aa (Aq (Bl U U ?_))
 unfold II;rw [GS hk.2 (by omega)];rfl
theorem He (g:AC) (a:AA) (x s:Int):FnT ZC 57 [.agg (AG g),.agg (AE a),.one (.v (.int .i64 x)),.one (.v (.int .i64 s))] (.a (.one (.v (.bool (HG g a x s))))):=by
 refine A8 Abj U (by kernel_rfl) Abk U fun hlen w0=>?_
 try simp [AP,AG,AE] at hlen
 skip
 refine Af (Ac (Bg U U U (.tm U) (ts:=_) (by rfl)) U ?_);refine Ac (Bg U U U (.tm U) (ts:=_) (by rfl)) U ?_;refine An ?_;refine Aa (Af (Aj B7 ?_));refine By (H2 _) ?_;refine Ab ?_;refine Ac (Br U (by exact .yes1 U U U U) U (.tmp U (by exact fun _=>rfl)) B6 U U) U ?_;refine Ac (Bc (FnT.fr (FW _)) U (by exact .yes1 U U U U) U (.cons (.tmp U (by exact id)) U .nil)) U ?_;refine Cn ?_;refine Ab ?_;refine Cm ?_;refine Eb Ci ?_;refine Dy Cc ?_;refine Ac (Di U (by exact .yes1 U U U U) U (.tmp U (by exact id)) (by exact .t) Z9) U ?_;refine Ac (D8 U (by exact .yes1 U U U U) U (.tmp U (by exact id)) (.const U) (fun hq=>by first|omega|(simp at hq;omega))) U ?_;refine Ac (Bc (FnT.fr (DR _ _ _)) U (by exact .yes1 U U U U) U (.cons (.tmp U (by exact id)) U (.cons (.const U) U (.cons (.tmp U (by exact id)) U .nil)))) U ?_;refine Cn ?_;refine Ab ?_
 refine Cm ?_;refine Eb Db ?_;refine Dy FU ?_;refine Ac (Di U (by exact .yes1 U U U U) U (.tmp U (by exact id)) (by exact .t) ZI) U ?_;refine Ac (D8 U (by exact .yes1 U U U U) U (.tmp U (by exact id)) (.const U) (fun hq=>by first|omega|(simp at hq;omega))) U ?_;refine Ac (Bc (FnT.fr (DR _ _ _)) U (by exact .yes1 U U U U) U (.cons (.tmp U (by exact id)) U (.cons (.const U) U (.cons (.tmp U (by exact id)) U .nil)))) U ?_;refine Cn ?_;refine Ah ?_;refine Aa (Aq (Bl U U ?_))
 rfl
theorem U7 (g:AC) (a:AA) (ha:AJ a=true) (hg:AI g=true) (y v:Int) (hy:0≤y) (hyv:g.Values[y.toNat]?=some v):FnT ZC 117 [.agg (AG g),.agg (AE a),.one (.v (.int .i64 y))] (.a (.one (.sl 1 ((EZ a y v).map AQ)))):=by
 refine A8 Abl U (by kernel_rfl) Abm U fun hlen w0=>?_
 try simp [AP,AG,AE] at hlen
 have hA:=AR ha
 have hG:=CA hg
 have hyl:=(ZP.1 hyv).1
 have hv:=GA hg hyv
 refine Af (Ac (Bg U U U (.tm U) (ts:=_) (by rfl)) U ?_);refine Ac (Bg U U U (.tm U) (ts:=_) (by rfl)) U ?_;refine An ?_;refine Ch (i:=6) 20001 1 U U ?_;refine Aa (Af (A7 Db ?_));refine Aj FU ?_;refine Bi (.t) ZI ?_;refine Ah ?_;refine Aa (Af (A6 (C7 13 U U U Z9 ty3 U) U ?_));refine Ah ?_;refine Aa (Ae (Af (An ?_)));refine Aa (AW.block (B9 (fun (s:Nat)=>(s≤a.Accept.length)∧True) (fun (s:Nat)=>⟨_,[(9,(true,.a (.one (.t (.v (.int .i64 (s:Nat))))))),(8,(true,.a (.one (.rf 13)))),(2,_),(3,_),(4,_),(6,_),(7,_)],[(13,.row 1 ((((ZA s).filter fun (s:Nat)=>acc a s v).map fun (s:Nat)=>y*a.Accept.length+s).map AQ))]⟩) (fun (s:Nat)=>a.Accept.length-s) (0) ⟨ZF _,Y⟩ Aw ?_))
 rintro s ⟨hk,he⟩
 refine Ae (Af (Ab ?_));refine Ab ?_;refine AWl.lt ?_;refine Aa (Ai (.tm U) (fun h16=>?_) (fun h16=>?_))
 · try simp at h16
   have hl:((ZA s).filter fun (s:Nat)=>acc a s v).length≤12:=ZO (ZW _ _) (by simp;omega)
   have hnl:y*a.Accept.length≤48∧0≤y*a.Accept.length:=⟨Int.le_trans (Int.mul_le_mul (show y≤4 by omega) (show (a.Accept.length:Int)≤12 by omega) (by omega) (by omega)) (by omega),Int.mul_nonneg hy (by omega)⟩
   refine Am (Ae (AW.block (Ae (Bx 9 (DM [[],[],[1],[],[3],[],[3,4,5],[3,4,5,6],[0,1,2,3,4,5,6,7]]) (by kernel_rfl) (by kernel_rfl) (by kernel_rfl) ?_))));refine A5 B6 ?_;refine Az ?_;refine AB.s (fun _ hs=>F9 U (.no U) (Ag hs U) (.const U) (hs.tm U) (fun _=>by omega)) ?_;refine Bz Ci ?_;refine A5 Cc ?_;refine Az ?_;refine AB.s (fun _ hs=>(Ak U (.no U) (Ag hs U) (hs.tm U) (hs.tm U) Z9 ty3 (fun _=>⟨by omega,Ao hyv⟩))) ?_;refine A5 ty3 ?_;refine AB.s (fun _ hs=>Bc (FnT.fr (Km a ha (2^s) (ZV (by omega) (by omega)) v hv)) U (.no U) (Ag hs U) (.cons (hs.tm U) (AD hs U) (.cons (hs.tm U) (AD hs U) (.cons (hs.tm U) (AD hs U) .nil)))) ?_;refine Bs U U ?_;refine Aa (Ai (.tm U) (fun h27=>?_) (fun h27=>?_))
   · skip
     rw [RW a v (by omega)] at h27
     refine As (Ay [2,3,4,6,7,8,9] [13]) ?_;refine Ad (Ab ?_);refine Ab ?_;refine Ab ?_;refine Ac (Ge U (.no U) U (.tm U) (.tm U) (fun _=>by omega)) U ?_;refine Ab ?_;refine Ac (Dn U (.no U) U (.tm U) (.tm U) (fun _=>by omega)) U ?_;refine Bp (Ce (xs:=[.tmp 33]) 34 U U U (.cons (.tm U) U U .nil) Z9 in3 U U U U) U ?_;refine Bt (B8 U U U (.tm U) U (.tm U) (by exact .rf U) (by rfl) Z9 in3 U (by (simp [AH];omega)) (by (unfold maxLen;simp [AH];omega))) U ?_;refine Bv (Ay [2,3,4,6,7,8,9,35] [13,34]) ?_;refine Ah ?_;refine Aa (Ad (Ab ?_));refine A9 ?_;refine Ah ?_;refine Aa ?_
     repeat (with_reducible refine Av ?_)
     refine BF.next (s+1) ⟨by omega,Y⟩ (by omega) (Au rfl ⟨rfl,rfl,rfl,rfl,rfl,rfl,rfl,Y⟩ ⟨congrArg (fun r=>some (R.row 1 r)) (by rw [AY,h27];simp [AH,AQ]),Y⟩)
   skip
   rw [RW a v (by omega)] at h27
   refine Am (As (Ay [2,3,4,6,7,8,9] [13]) ?_);refine Ad (Ab ?_);refine A9 ?_;refine Ah ?_;refine Aa ?_
   repeat (with_reducible refine Av ?_)
   refine BF.next (s+1) ⟨by omega,Y⟩ (by omega) (Au rfl ⟨rfl,rfl,rfl,rfl,rfl,rfl,rfl,Y⟩ ⟨congrArg (fun r=>some (R.row 1 r)) (by rw [AY,h27];simp),Y⟩)
 try simp at h16
 refine Bf (Af (Ab ?_));refine Ah ?_;refine Aa (Aq (Res.one U (.tmp U .nil) U ?_))
 unfold EZ;rw [show s=a.Accept.length by omega];rfl
end Go.Q
