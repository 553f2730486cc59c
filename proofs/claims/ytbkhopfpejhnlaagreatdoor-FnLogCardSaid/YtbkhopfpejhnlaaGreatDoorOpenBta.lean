import Derived.Test.YtbkhopfpejhnlaaGreatDoorDatata
import Derived.Test.YtbkhopfpejhnlaaGreatDoorProg
import Derived.Test.YtbkhopfpejhnlaaGreatDoorAbs16ta
import Derived.Deep.Slices
namespace Go.Proofs.YtbkhopfpejhnlaaGreatDoor
open Go.RowKit Go.Q
theorem ty3 : tyB Tryz.prog 3 false 1 = true := by kernel_rfl
theorem in3 : (Tryz.prog.info? 3).map (fun i => (i.zero, i.size, i.bytes)) = some (some (.int .i64 0), 1, 8) := by kernel_rfl
theorem ty4 : tyB Tryz.prog 4 false 1 = true := by kernel_rfl
theorem ty5 : tyB Tryz.prog 5 false 1 = true := by kernel_rfl
theorem in5 : (Tryz.prog.info? 5).map (fun i => (i.zero, i.size, i.bytes)) = some (some (.int .u8 0), 1, 1) := by kernel_rfl
theorem ty9 : tyB Tryz.prog 9 false 1 = true := by kernel_rfl
theorem in9 : (Tryz.prog.info? 9).map (fun i => (i.zero, i.size, i.bytes)) = some (some (.string .empty), 1, 16) := by kernel_rfl
theorem ty45 : tyB Tryz.prog 45 false 1 = true := by kernel_rfl
theorem ty47 : tyB Tryz.prog 47 true 1 = true := by kernel_rfl
theorem in47 : (Tryz.prog.info? 47).map (fun i => (i.zero, i.size, i.bytes)) = some (some (.agg #[.slice none 0 0]), 1, 24) := by kernel_rfl
theorem st47 : (match Tryz.prog.underlying 47 with | some (.struct fs) => fs.all (fun f => (Tryz.prog.info? f.type).isSome) | _ => false) = true := by kernel_rfl
theorem fl47_0 : fldB Tryz.prog 47 0 0 = true := by kernel_rfl
theorem fp47_0 : (match Tryz.prog.underlying 47 with | some (.struct fs) => (match fs[0]? with | some f => Nat.beq f.offset 0 && (match Tryz.prog.info? f.type with | some i => Nat.beq i.size 1 | none => false) | none => false) | _ => false) = true := by kernel_rfl
theorem ty55 : tyB Tryz.prog 55 false 1 = true := by kernel_rfl
theorem ty81 : tyB Tryz.prog 81 false 1 = true := by kernel_rfl
theorem ty83 : tyB Tryz.prog 83 true 2 = true := by kernel_rfl
theorem in83 : (Tryz.prog.info? 83).map (fun i => (i.zero, i.size, i.bytes)) = some (some (.agg #[.slice none 0 0, .slice none 0 0]), 2, 48) := by kernel_rfl
theorem st83 : (match Tryz.prog.underlying 83 with | some (.struct fs) => fs.all (fun f => (Tryz.prog.info? f.type).isSome) | _ => false) = true := by kernel_rfl
theorem fl83_0 : fldB Tryz.prog 83 0 0 = true := by kernel_rfl
theorem fp83_0 : (match Tryz.prog.underlying 83 with | some (.struct fs) => (match fs[0]? with | some f => Nat.beq f.offset 0 && (match Tryz.prog.info? f.type with | some i => Nat.beq i.size 1 | none => false) | none => false) | _ => false) = true := by kernel_rfl
theorem fl83_1 : fldB Tryz.prog 83 1 1 = true := by kernel_rfl
theorem fp83_1 : (match Tryz.prog.underlying 83 with | some (.struct fs) => (match fs[1]? with | some f => Nat.beq f.offset 1 && (match Tryz.prog.info? f.type with | some i => Nat.beq i.size 1 | none => false) | none => false) | _ => false) = true := by kernel_rfl
theorem ty95 : tyB Tryz.prog 95 true 4 = true := by kernel_rfl
theorem in95 : (Tryz.prog.info? 95).map (fun i => (i.zero, i.size, i.bytes)) = some (some (.agg #[.int .i64 0, .int .i64 0, .int .i64 0, .int .i64 0]), 4, 32) := by kernel_rfl
theorem st95 : (match Tryz.prog.underlying 95 with | some (.struct fs) => fs.all (fun f => (Tryz.prog.info? f.type).isSome) | _ => false) = true := by kernel_rfl
theorem neS95 (x0 : Int) (x1 : Int) (x2 : Int) (x3 : Int) (y0 : Int) (y1 : Int) (y2 : Int) (y3 : Int) (w : World) : (binOp .neq 95 (.agg (List.toArray [.int .i64 x0, .int .i64 x1, .int .i64 x2, .int .i64 x3])) (.agg (List.toArray [.int .i64 y0, .int .i64 y1, .int .i64 y2, .int .i64 y3]))).run Tryz.prog w = .ok (.bool (!(decide (x0 = y0) && decide (x1 = y1) && decide (x2 = y2) && decide (x3 = y3)))) w := by
 have hs : Tryz.prog.stoodInHeld 95 = false := by kernel_rfl
 simp [go_sem, hs, Tryz.underlying95]
 repeat' split
 all_goals simp [*]
theorem fl95_0 : fldB Tryz.prog 95 0 0 = true := by kernel_rfl
theorem fp95_0 : (match Tryz.prog.underlying 95 with | some (.struct fs) => (match fs[0]? with | some f => Nat.beq f.offset 0 && (match Tryz.prog.info? f.type with | some i => Nat.beq i.size 1 | none => false) | none => false) | _ => false) = true := by kernel_rfl
theorem fl95_1 : fldB Tryz.prog 95 1 1 = true := by kernel_rfl
theorem fp95_1 : (match Tryz.prog.underlying 95 with | some (.struct fs) => (match fs[1]? with | some f => Nat.beq f.offset 1 && (match Tryz.prog.info? f.type with | some i => Nat.beq i.size 1 | none => false) | none => false) | _ => false) = true := by kernel_rfl
theorem fl95_2 : fldB Tryz.prog 95 2 2 = true := by kernel_rfl
theorem fp95_2 : (match Tryz.prog.underlying 95 with | some (.struct fs) => (match fs[2]? with | some f => Nat.beq f.offset 2 && (match Tryz.prog.info? f.type with | some i => Nat.beq i.size 1 | none => false) | none => false) | _ => false) = true := by kernel_rfl
theorem fl95_3 : fldB Tryz.prog 95 3 3 = true := by kernel_rfl
theorem fp95_3 : (match Tryz.prog.underlying 95 with | some (.struct fs) => (match fs[3]? with | some f => Nat.beq f.offset 3 && (match Tryz.prog.info? f.type with | some i => Nat.beq i.size 1 | none => false) | none => false) | _ => false) = true := by kernel_rfl
theorem ty97 : tyB Tryz.prog 97 true 5 = true := by kernel_rfl
theorem in97 : (Tryz.prog.info? 97).map (fun i => (i.zero, i.size, i.bytes)) = some (some (.agg #[.bool false, .int .i64 0, .int .i64 0, .int .i64 0, .int .i64 0]), 5, 40) := by kernel_rfl
theorem st97 : (match Tryz.prog.underlying 97 with | some (.struct fs) => fs.all (fun f => (Tryz.prog.info? f.type).isSome) | _ => false) = true := by kernel_rfl
theorem fl97_0 : fldB Tryz.prog 97 0 0 = true := by kernel_rfl
theorem fp97_0 : (match Tryz.prog.underlying 97 with | some (.struct fs) => (match fs[0]? with | some f => Nat.beq f.offset 0 && (match Tryz.prog.info? f.type with | some i => Nat.beq i.size 1 | none => false) | none => false) | _ => false) = true := by kernel_rfl
theorem fl97_1 : fldB Tryz.prog 97 1 1 = true := by kernel_rfl
theorem fp97_1 : (match Tryz.prog.underlying 97 with | some (.struct fs) => (match fs[1]? with | some f => Nat.beq f.offset 1 && (match Tryz.prog.info? f.type with | some i => Nat.beq i.size 4 | none => false) | none => false) | _ => false) = true := by kernel_rfl
theorem ty100 : tyB Tryz.prog 100 false 1 = true := by kernel_rfl
theorem ty102 : tyB Tryz.prog 102 true 2 = true := by kernel_rfl
theorem in102 : (Tryz.prog.info? 102).map (fun i => (i.zero, i.size, i.bytes)) = some (some (.agg #[.int .i64 0, .slice none 0 0]), 2, 32) := by kernel_rfl
theorem st102 : (match Tryz.prog.underlying 102 with | some (.struct fs) => fs.all (fun f => (Tryz.prog.info? f.type).isSome) | _ => false) = true := by kernel_rfl
theorem fl102_0 : fldB Tryz.prog 102 0 0 = true := by kernel_rfl
theorem fp102_0 : (match Tryz.prog.underlying 102 with | some (.struct fs) => (match fs[0]? with | some f => Nat.beq f.offset 0 && (match Tryz.prog.info? f.type with | some i => Nat.beq i.size 1 | none => false) | none => false) | _ => false) = true := by kernel_rfl
theorem fl102_1 : fldB Tryz.prog 102 1 1 = true := by kernel_rfl
theorem fp102_1 : (match Tryz.prog.underlying 102 with | some (.struct fs) => (match fs[1]? with | some f => Nat.beq f.offset 1 && (match Tryz.prog.info? f.type with | some i => Nat.beq i.size 1 | none => false) | none => false) | _ => false) = true := by kernel_rfl
end Go.Proofs.YtbkhopfpejhnlaaGreatDoor
set_option linter.unusedVariables false
set_option linter.unusedSimpArgs false
namespace Go.Proofs.YtbkhopfpejhnlaaGreatDoor
open Go.RowKit Go.Q Go.D
end Go.Proofs.YtbkhopfpejhnlaaGreatDoor
set_option linter.unusedVariables false
set_option linter.unusedSimpArgs false
namespace Go.Q
end Go.Q
namespace Go.Proofs.YtbkhopfpejhnlaaGreatDoor
open Go.RowKit Go.Q Go.D
end Go.Proofs.YtbkhopfpejhnlaaGreatDoor
set_option linter.unusedVariables false
set_option linter.unusedSimpArgs false
namespace Go.Q
open Go.D
end Go.Q
namespace Go.Proofs.YtbkhopfpejhnlaaGreatDoor
open Go.RowKit Go.Q Go.D
set_option maxRecDepth 100000 in
theorem implwithin (n a b : Int) : FnT Tryz.prog 61 [.one (.v (.int .i64 n)), .one (.v (.int .i64 a)), .one (.v (.int .i64 b))] (.a (.one (.v (.bool (inB n a b))))) := by
 refine FnT.walk Tryz.func61 U (by kernel_rfl) Tryz.ntmps61 U fun hlen w0 => ?_
 try simp [cEdge, cGraph, cChange, cBatch, cHistory] at hlen
 refine AW.sr ?_
 refine AWl.ac ?_
 refine AWl.nil (AW.sr ?_)
 refine AWl.mv ?_
 refine AWl.mv ?_
 refine AWl.p (R_ge U (.no U) U (.tm U) (.tm U)) U ?_
 refine AWl.mv ?_
 refine AWl.p (R_move U (by first | exact .yes1 U U U U | exact .yes U U U U) U (.tmp U (by first | exact fun _ => rfl | exact id | simp))) U ?_
 refine AWl.p (R_move U (by first | exact .yes1 U U U U | exact .yes U U U U) U (.tmp U (by first | exact fun _ => rfl | exact id | simp))) U ?_
 refine AWl.p (R_le U (by first | exact .yes1 U U U U | exact .yes U U U U) U (.tmp U (by first | exact fun _ => rfl | exact id | simp)) (.tmp U (by first | exact fun _ => rfl | exact id | simp))) U ?_
 refine AWl.p (R_and U (.no U) U (.tm U) (.tmp U (by first | exact fun _ => rfl | exact id | simp))) U ?_
 refine AWl.av ?_
 refine AWl.nil (AW.ret ?_)
 refine Res.v U U ?_
 rfl
set_option maxRecDepth 100000 in
theorem specl1In (n a b : Int) : FnT Tryz.prog 41 [.one (.v (.int .i64 n)), .one (.v (.int .i64 a)), .one (.v (.int .i64 b))] (.a (.one (.v (.bool (inB n a b))))) := by
 refine FnT.walk Tryz.func41 U (by kernel_rfl) Tryz.ntmps41 U fun hlen w0 => ?_
 try simp [cEdge, cGraph, cChange, cBatch, cHistory] at hlen
 refine AW.sr ?_
 refine AWl.ac ?_
 refine AWl.nil (AW.sr ?_)
 refine AWl.mv ?_
 refine AWl.mv ?_
 refine AWl.p (R_ge U (.no U) U (.tm U) (.tm U)) U ?_
 refine AWl.mv ?_
 refine AWl.p (R_move U (by first | exact .yes1 U U U U | exact .yes U U U U) U (.tmp U (by first | exact fun _ => rfl | exact id | simp))) U ?_
 refine AWl.p (R_move U (by first | exact .yes1 U U U U | exact .yes U U U U) U (.tmp U (by first | exact fun _ => rfl | exact id | simp))) U ?_
 refine AWl.p (R_le U (by first | exact .yes1 U U U U | exact .yes U U U U) U (.tmp U (by first | exact fun _ => rfl | exact id | simp)) (.tmp U (by first | exact fun _ => rfl | exact id | simp))) U ?_
 refine AWl.p (R_and U (.no U) U (.tm U) (.tmp U (by first | exact fun _ => rfl | exact id | simp))) U ?_
 refine AWl.av ?_
 refine AWl.nil (AW.ret ?_)
 refine Res.v U U ?_
 rfl
set_option maxRecDepth 100000 in
theorem specl2Letter (n : Int) : FnT Tryz.prog 149 [.one (.v (.int .i64 n))] (.a (.one (.v (.bool (inB n 0 8))))) := by
 refine FnT.walk Tryz.func149 U (by kernel_rfl) Tryz.ntmps149 U fun hlen w0 => ?_
 try simp [cEdge, cGraph, cChange, cBatch, cHistory] at hlen
 refine AW.sr ?_
 refine AWl.ac ?_
 refine AWl.nil (AW.sr ?_)
 refine AWl.mv ?_
 refine AWl.p (R_callz (FnT.fr (specl1In _ _ _)) U (.no U) U (.cons (.tm U) U (.cons (.const U) U (.cons (.const U) U .nil)))) U ?_
 refine AWl.av ?_
 refine AWl.nil (AW.ret ?_)
 refine Res.v U U ?_
 rfl
end Go.Proofs.YtbkhopfpejhnlaaGreatDoor
set_option linter.unusedVariables false
set_option linter.unusedSimpArgs false
namespace Go.Q
open Go.RowKit Go.ChangeShapes Go.WideShapes Go.Deep Go.D
def OpensT {α : Type} (c : α → List T) (P : Program) (t : TypeId) : Prop :=
 ∀ {H : Type} {enc : TypeId × Value → H} {w : World} {base : Nat} {spare : Nat → Bool} {held : Bool} {fuel : Nat} {cs : List Value} {x : DataW H × List MemPlace},
  DataW.trod enc P w base spare held fuel t cs = some x → ∃ (a : α) (F : List Nat), Cs false w (c a) cs F
theorem Cs_one {o : Bool} {w : World} {t : T} {v : Value} {F : List Nat} (h : C o w t v F) : Cs o w [t] [v] F := by
 unfold Cs
 exact ⟨v, [], F, [], rfl, h, by unfold Cs; exact ⟨rfl, rfl⟩, by simp⟩
theorem Cs_one_inv {o : Bool} {w : World} {t : T} {v : Value} {F : List Nat} (h : Cs o w [t] [v] F) : C o w t v F := by
 simp only [Cs] at h
 obtain ⟨c, cr, G1, G2, h1, h2, ⟨rfl, rfl⟩, rfl⟩ := h
 cases h1
 simpa using h2
theorem rws_build {α : Type} {c : α → List T} {w : World} {b k : Nat} (hc : ∀ a, (c a).length = k) : ∀ (l : List α) (css : List (List Value)) (Fs : List (List Nat)) (off : Nat), css.length = l.length → Fs.length = l.length →
 (∀ (i : Nat) (x : α) (cs : List Value) (f : List Nat), l[i]? = some x → css[i]? = some cs → Fs[i]? = some f → Cs false w (c x) cs f) →
 (∀ (i : Nat) (cs : List Value) (j : Nat) (u : Value), css[i]? = some cs → cs[j]? = some u → w.cell? ⟨b, off + i * k + j, none⟩ = some u) → Rws false w b k off (l.map c) Fs.flatten
 | [], css, Fs, off, h1, h2, h3, h4 => by
  have : Fs = [] := List.eq_nil_of_length_eq_zero (by simpa using h2)
  subst this
  simp only [List.map_nil, List.flatten_nil]
  unfold Rws
  rfl
 | a :: l, css, Fs, off, h1, h2, h3, h4 => by
  match css, Fs, h1, h2 with
  | cs :: css, f :: Fs, h1, h2 =>
   have ih := rws_build hc l css Fs (off + k) (by simpa using h1) (by simpa using h2) (fun i x cs' f' hx hcs hf => h3 (i + 1) x cs' f' (by simpa using hx) (by simpa using hcs) (by simpa using hf)) (fun i cs' j u hcs hu => by
    have := h4 (i + 1) cs' j u (by simpa using hcs) hu
    rwa [show off + (i + 1) * k + j = off + k + i * k + j by rw [Nat.succ_mul]; omega] at this)
   rw [List.map_cons, List.flatten_cons]
   unfold Rws
   refine ⟨f, Fs.flatten, hc a, Ms.of (h3 0 a cs f rfl rfl rfl) fun j u hj => ?_, ih, rfl⟩
   have := h4 0 cs j u rfl hj
   simpa using this
theorem opensTSlice {α : Type} {c : α → List T} {k : Nat} {P : Program} {t e : TypeId} (ht : P.underlying t = some (.slice e)) (hk : P.cellsOf e = k) (hpos : 0 < k) (hc : ∀ a, (c a).length = k) (he : OpensT c P e) : OpensT (fun (l : List α) => [T.sl k (l.map c)]) P t := by
 intro H enc w base spare held fuel cs x h
 rcases open_slice ht h with ⟨rfl, _⟩ | ⟨a, len, cap, m, n, D, Pl, rfl, hb, hl, hm, hmm, _, hi⟩
 · refine ⟨[], [], Cs_one ?_⟩
   unfold C
   exact ⟨none, 0, 0, rfl, rfl, Nat.le_refl _, Nat.zero_le _, .inl ⟨rfl, rfl, fun h => by cases h⟩⟩
 · have hlm : len ≤ m := by rw [hmm]; split <;> omega
   have key : ∀ q, q ≤ len → ∃ (css : List (List Value)) (l : List α) (Fs : List (List Nat)), css.length = q ∧ l.length = q ∧ Fs.length = q ∧
    (∀ (i : Nat) (x : α) (cs : List Value) (f : List Nat), l[i]? = some x → css[i]? = some cs → Fs[i]? = some f → Cs false w (c x) cs f) ∧
    (∀ (i : Nat) (cs : List Value), css[i]? = some cs → w.cells? base (a.add (i * P.cellsOf e)) (P.cellsOf e) = some cs) := by
    intro q
    induction q with
    | zero => intro _; exact ⟨[], [], [], rfl, rfl, rfl, by simp, by simp⟩
    | succ q ih =>
     intro hq
     obtain ⟨css, l, Fs, h1, h2, h3, h4, h5⟩ := ih (by omega)
     obtain ⟨cs', hc, htr⟩ := hi q (by omega)
     obtain ⟨y, f, hr⟩ := he htr
     refine ⟨css ++ [cs'], l ++ [y], Fs ++ [f], by simp [h1], by simp [h2], by simp [h3], fun i x cs f' hx hcs hf => ?_, fun i cs hcs => ?_⟩
     · rcases Nat.lt_trichotomy i q with hlt | rfl | hgt
       · rw [List.getElem?_append_left (by omega)] at hx hcs hf
         exact h4 i x cs f' hx hcs hf
       · rw [List.getElem?_append_right (by omega), h2] at hx
         rw [List.getElem?_append_right (by omega), h1] at hcs
         rw [List.getElem?_append_right (by omega), h3] at hf
         simp at hx hcs hf
         subst hx; subst hcs; subst hf
         exact hr
       · rw [List.getElem?_eq_none (by simp; omega)] at hx
         cases hx
     · rcases Nat.lt_trichotomy i q with hlt | rfl | hgt
       · rw [List.getElem?_append_left (by omega)] at hcs
         exact h5 i cs hcs
       · rw [List.getElem?_append_right (by omega), h1] at hcs
         simp at hcs
         subst hcs
         exact hc
       · rw [List.getElem?_eq_none (by simp; omega)] at hcs
         cases hcs
   obtain ⟨css, l, Fs, h1, h2, h3, h4, h5⟩ := key len (Nat.le_refl _)
   by_cases h0 : len = 0
   · refine ⟨l, [], Cs_one ?_⟩
     unfold C
     exact ⟨some a, len, cap, rfl, by simpa using h2, hl, hm, .inl ⟨h0, rfl, fun h => by cases h⟩⟩
   · obtain ⟨b, off, spot⟩ := a
     obtain ⟨_, hlen0, hat0⟩ := World.cells?_some (h5 0 _ (List.getElem?_eq_getElem (by omega)))
     have c0 := hat0 0 (by omega)
     rw [List.getElem?_eq_getElem (by omega)] at c0
     have hlt : b < w.heap.size := by
      have := World.block_lt_of_cell? w _ c0
      simpa [Addr.add] using this
     have hspot : spot = none := by
      have := World.cell?_spot c0
      simpa [Addr.add] using this
     subst hspot
     refine ⟨l, b :: Fs.flatten, Cs_one ?_⟩
     unfold C
     refine ⟨some ⟨b, off, none⟩, len, cap, rfl, by simpa using h2, hl, hm, .inr ⟨b, off, Fs.flatten, rfl, rfl, hlt, (by simp), rws_build hc l css Fs off (by omega) (by omega) h4 fun i cs j u hcs hu => ?_⟩⟩
     obtain ⟨_, hlen', hat⟩ := World.cells?_some (h5 i cs hcs)
     have hj : j < cs.length := (List.getElem?_eq_some_iff.1 hu).1
     have := hat j (by omega)
     rw [hu] at this
     rw [← this, ← hk]
     congr 1
     unfold Addr.add
     split <;> split <;> simp_all <;> omega
theorem OpensT.vl {α : Type} {c : α → List T} {P : Program} {t : TypeId} {v : Value} {H : Type} {enc : TypeId × Value → H} {w : World} {base : Nat} {spare : Nat → Bool} {held : Bool} {d : DataW H} {p : List MemPlace} (h : OpensT c P t)
 (hv : DataW.Trod enc P w base spare held t v d p) : ∃ (a : α) (F : List Nat), Cs false w (c a) v.cells.toList F := by
 obtain ⟨fuel, hf⟩ := hv
 exact h hf
end Go.Q
set_option linter.unusedVariables false
set_option linter.unusedSimpArgs false
namespace Go.Q
open Go.RowKit Go.ChangeShapes Go.WideShapes Go.Deep Go.D
def cByte (n : Fin 256) : List T := [.v (.int .u8 (n.val : Int))]
theorem opensTByte {P : Program} {t : TypeId} (ht : P.underlying t = some (.int .u8)) : OpensT cByte P t := by
 intro H enc w base spare held fuel cs x h
 obtain ⟨n, rfl, _, hw⟩ := DataW.trod_int ht h
 have hr : 0 ≤ n ∧ n < 256 := by
  simp [Lit.wf, IntKind.min, IntKind.max] at hw
  have h1 : IntKind.u8.bits = 8 := rfl
  simp [IntKind.signed, h1] at hw
  omega
 obtain ⟨k, rfl⟩ : ∃ k : Nat, n = (k : Int) := ⟨n.toNat, by omega⟩
 exact ⟨⟨k, by omega⟩, [], Cs_one (by unfold C; exact ⟨rfl, rfl, rfl⟩)⟩
theorem byR_fin (l : List (Fin 256)) : byR (l.map fun n => (n.val : Int)) = l.map cByte := by
 unfold byR; rw [List.map_map]; rfl
theorem C_fin {w : World} {l : List (Fin 256)} {v : Value} {F : List Nat} (h : C false w (.sl 1 (l.map cByte)) v F) : C false w (.sl 1 (byR (l.map fun n => (n.val : Int)))) v F := by rw [byR_fin]; exact h
theorem fin_range (l : List (Fin 256)) : ∀ n ∈ l.map (fun n => (n.val : Int)), 0 ≤ n ∧ n < 256 := fun n hn => by
 obtain ⟨k, _, rfl⟩ := List.mem_map.1 hn
 have := k.isLt
 omega
end Go.Q
namespace Go.Proofs.YtbkhopfpejhnlaaGreatDoor
open Go.RowKit Go.Q Go.D
theorem lawsbig (bs : List Int) : FnT Tryz.prog 5 [.one (.sl 1 (byR bs))] (.a (.one (.v (.bool (decide (1048576 < bs.length)))))) := by
 refine FnT.walk Tryz.func5 U (by kernel_rfl) Tryz.ntmps5 U fun hlen w0 => ?_
 try simp [cEdge, cGraph, cChange, cBatch, cHistory] at hlen
 refine AW.sr ?_
 refine AWl.ac ?_
 refine AWl.nil (AW.sr ?_)
 refine AWl.mv ?_
 refine AWl.p ((by first | exact R_lenm U (.no U) U (.tm U) (by first | exact .t | exact .rf U | exact .vw | exact .nil) Tryz.underlying22 | exact R_len U (.no U) U (.tm U) (by first | exact .t | exact .rf U | exact .vw | exact .nil) Tryz.underlying22)) U ?_
 refine AWl.p (R_gt U (.no U) U (.tm U) (.const U)) U ?_
 refine AWl.av ?_
 refine AWl.nil (AW.ret ?_)
 refine Res.v U U ?_
 simp [byR]; omega
end Go.Proofs.YtbkhopfpejhnlaaGreatDoor
