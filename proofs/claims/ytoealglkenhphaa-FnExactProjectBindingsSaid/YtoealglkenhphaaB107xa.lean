/- Rows projected: impl's text. -/
import Derived.Test.YtoealglkenhphaaSortRxa
import Derived.Test.YtoealglkenhphaaB106xa
import Derived.Test.YtoealglkenhphaaHLiftxa
import Derived.Test.YtoealglkenhphaaAppxa
set_option linter.unusedVariables false
set_option linter.unusedSimpArgs false
set_option maxHeartbeats 1000000
set_option maxRecDepth 100000
namespace Go.Q
open Go.RowKit Go.D
theorem C.ints {w : World} {l : List Int} {v : Value} {F : List Nat} (h : C false w (.sl 1 (l.map cInt)) v F) : ∃ a len cap, v = .slice a len cap ∧ l.length = len ∧ len ≤ 9223372036854775807 ∧ ∀ i, i < len → ∃ b off x, a = some ⟨b, off, none⟩ ∧ l[i]? = some x ∧ w.cell? ⟨b, off + i, none⟩ = some (.int .i64 x) := by
  simp only [C] at h
  obtain ⟨a, len, cap, rfl, h2, h3, h4, h5⟩ := h
  rw [List.length_map] at h2
  refine ⟨a, len, cap, rfl, h2, by unfold maxLen at h4; omega, fun i hi => ?_⟩
  rcases h5 with ⟨h5, _⟩ | ⟨b, off, G, rfl, rfl, h7, h8, h9⟩
  · omega
  · obtain ⟨s1, xs, s2, s3, s4⟩ := h9.flat
    have hf : (l.map cInt).flatten = l.map fun x => T.v (.int .i64 x) := by
      clear h9 s1 s2 s3 h2
      induction l with
      | nil => rfl
      | cons x l ih => rw [List.map_cons, List.flatten_cons, ih]; rfl
    rw [hf] at s2
    have key : ∀ (m : List Int) {cs : List Value} {G : List Nat}, Cs false w (m.map fun x => T.v (.int .i64 x)) cs G → cs = m.map fun x => .int .i64 x := by
      intro m
      induction m with
      | nil => intro cs G h; simp only [List.map_nil, Cs] at h; exact h.1
      | cons x m ih =>
        intro cs G h
        simp only [List.map_cons, Cs] at h
        obtain ⟨c1, cr, G1, G2, rfl, g1, g2, rfl⟩ := h
        simp only [C] at g1
        obtain ⟨rfl, _⟩ := g1
        rw [ih g2]; rfl
    have hx := key _ s2
    subst hx
    have hil : i < l.length := by omega
    exact ⟨b, off, l[i], rfl, List.getElem?_eq_getElem hil, s4 i _ (by rw [List.getElem?_map, List.getElem?_eq_getElem hil]; rfl)⟩
/-- Rows projected. -/
def okVar (row : List Int) (v : Int) : Bool := inB v 0 ((row.length : Int) - 1)
def okVars (vars : List Int) (row : List Int) : Bool := vars.all (okVar row)
def projR (vars : List Int) (row : List Int) : List Int := vars.map fun v => row[v.toNat]?.getD 0
def projB (rows : List (List Int)) (vars : List Int) : List (List Int) := if rows.all (okVars vars) then setG rless (rows.map (projR vars)) else []
theorem okVar_get {row : List Int} {v : Int} (h : okVar row v = true) : (0 ≤ v ∧ v < row.length) ∧ row[v.toNat]? = some (row[v.toNat]?.getD 0) := by
  unfold okVar inB at h
  simp only [Bool.and_eq_true, decide_eq_true_eq] at h
  refine ⟨by omega, ?_⟩
  rw [List.getElem?_eq_getElem (by omega)]; rfl
theorem projB_not {rows : List (List Int)} {vars row : List Int} {v : Int} (h1 : row ∈ rows) (h2 : v ∈ vars) (h3 : okVar row v = false) : projB rows vars = [] := by
  unfold projB
  rw [if_neg]
  intro h
  have := List.all_eq_true.1 (List.all_eq_true.1 h row h1) v h2
  rw [h3] at this; cases this
theorem projB_all {rows : List (List Int)} {vars : List Int} (h : ∀ (j : Nat) (r : List Int), j < rows.length → rows[j]? = some r → okVars vars r = true) : projB rows vars = setG rless (rows.map (projR vars)) := by
  unfold projB
  rw [if_pos]
  rw [List.all_eq_true]
  intro r hr
  obtain ⟨j, hj⟩ := List.getElem?_of_mem hr
  exact h j r (List.getElem?_eq_some_iff.1 hj).1 hj
end Go.Q
namespace Go.Proofs.Ytoealglkenhphaa
open Go.RowKit Go.Q Go.D
open Go.Sort (grow grow_grow)
theorem isNaN_calls (x : Int) (W : World) : Calls Try.prog 96 #[.int .i64 x] W fun e w' => e = .returned (.bool false) ∧ w' = W := by
  have e : (x != x) = false := by simp
  go_enter Try.func96, Try.ntmps96
  go_wp2
  go_ret
  exact ⟨by simp, rfl⟩
theorem cmpCompare_calls (x y : Int) (W : World) : Calls Try.prog 63 #[.int .i64 x, .int .i64 y] W fun e w' => e = .returned (.int .i64 (cmpI x y)) ∧ w' = W := by
  have hcon := fun a W' => isNaN_calls a W'
  have e : cmpI x y = if x < y then -1 else if y < x then 1 else 0 := rfl
  generalize cmpI x y = r at e ⊢
  by_cases h1 : x < y
  · rw [if_pos h1] at e
    subst e
    go_enter Try.func63, Try.ntmps63
    go_wp2_with (go_at_call 96; refine (hcon _ _).mono ?_; rintro e w' ⟨rfl, rfl⟩)
    go_ret
    exact ⟨rfl, rfl⟩
  · rw [if_neg h1] at e
    by_cases h2 : y < x
    · rw [if_pos h2] at e
      subst e
      go_enter Try.func63, Try.ntmps63
      go_wp2_with (go_at_call 96; refine (hcon _ _).mono ?_; rintro e w' ⟨rfl, rfl⟩)
      go_ret
      exact ⟨rfl, rfl⟩
    · rw [if_neg h2] at e
      subst e
      go_enter Try.func63, Try.ntmps63
      go_wp2_with (go_at_call 96; refine (hcon _ _).mono ?_; rintro e w' ⟨rfl, rfl⟩)
      go_ret
      exact ⟨rfl, rfl⟩
set_option maxHeartbeats 1000000 in
theorem slicesCompare_calls (l r : List Int) (vx vy : Value) (Gx Gy : List Nat) (w : World) (hx : C false w (.sl 1 (l.map cInt)) vx Gx) (hy : C false w (.sl 1 (r.map cInt)) vy Gy) : Calls Try.prog 34 #[vx, vy] w fun e w' => e = .returned (.int .i64 (cmpL l r)) ∧ w' = w := by
  obtain ⟨a, len, cap, rfl, n1, n2, c1⟩ := hx.ints
  obtain ⟨a', len', cap', rfl, m1, m2, d1⟩ := hy.ints
  clear hx hy
  have hcon := fun p q W' => cmpCompare_calls p q W'
  go_enter Try.func34, Try.ntmps34
  go_wp2
  go_loopw [5, 6, 7, 8, 11] (fun _ _ _ _ i wr => ∃ k : Nat, k ≤ len ∧ k ≤ len' ∧ i = .int .i64 k ∧ wr = w ∧ cmpL l r = cmpL (l.drop k) (r.drop k)) (fun _ _ _ _ i _ => len - (intOf i).toNat)
  case atStart => exact ⟨0, by simp⟩
  case round =>
    obtain ⟨k, hk, hk', rfl, rfl, ht⟩ := hrel
    have HT := hid ht; clear ht
    by_cases hlt : k < len
    · obtain ⟨pb, poff, px, rfl, phx, pd⟩ := c1 k hlt
      by_cases hlt' : k < len'
      · obtain ⟨qb, qoff, qx, rfl, qhx, qd⟩ := d1 k hlt'
        have HD := hid (cmpL_drop phx qhx)
        clear phx qhx c1 d1
        have e : cmpI px qx = if px < qx then -1 else if qx < px then 1 else 0 := rfl
        have HC := hid e
        clear e
        have hcc := hcon px qx wr
        generalize cmpI px qx = rr at HC hcc
        by_cases h0 : rr = 0
        · subst h0
          go_wp2_with (go_at_call 63; refine hcc.mono ?_; rintro e w' ⟨rfl, rfl⟩)
          go_roundw
          case rel =>
            have := HC.out
            refine ⟨k + 1, by omega, by omega, by go_num, trivial, ?_⟩
            rw [HT.out, HD.out]
            split at this
            · omega
            · split at this
              · omega
              · rw [if_neg (by assumption), if_neg (by assumption)]
          case measure => simp [intOf]; omega
        · have hb : (rr != 0) = true := by simpa using h0
          go_wp2_with (go_at_call 63; refine hcc.mono ?_; rintro e w' ⟨rfl, rfl⟩)
          go_ret
          refine ⟨ret_int ?_, rfl⟩
          have := HC.out
          rw [HT.out, HD.out]
          split at this
          · rw [if_pos (by assumption)]; exact this
          · split at this
            · rw [if_neg (by assumption), if_pos (by assumption)]; exact this
            · exact absurd this h0
      · clear d1
        go_wp2
        go_ret
        refine ⟨ret_int ?_, rfl⟩
        rw [HT.out, cmpL_end (by omega) (by omega) (by omega), if_neg (by omega), if_pos (by omega)]
    · clear c1 d1
      have hke : k = len := by omega
      subst hke
      by_cases h2 : k < len'
      · go_wp2
        go_ret
        refine ⟨ret_int ?_, rfl⟩
        rw [HT.out, cmpL_end (by omega) (by omega) (by omega), if_pos (by omega)]
      · go_wp2
        go_ret
        refine ⟨ret_int ?_, rfl⟩
        rw [HT.out, cmpL_end (by omega) (by omega) (by omega), if_neg (by omega), if_neg (by omega)]
end Go.Proofs.Ytoealglkenhphaa
namespace Go.Proofs
open Go.Shelf Go.RowKit Go.Lib Go.Sort
def Try.sortRows_ren:Go.Shelf.Ren:=⟨fun|6=>32|15=>62|14=>61|28=>94|29=>95|20=>86|21=>87|22=>88|23=>89|24=>90|25=>91|26=>92|27=>93|46=>110|47=>111|48=>112|49=>113|50=>114|57=>117|n=>n,fun|22=>22|24=>23|25=>60|3=>3|39=>94|0=>0|53=>128|55=>130|4=>4|46=>121|45=>120|50=>125|5=>5|9=>9|66=>139|70=>143|76=>147|77=>99|n=>n,fun|n=>n⟩
theorem Try.sortRows:Go.Proofs.SlLaysF.n6 Try.prog Try.sortRows_ren:={
 mixed:=by kernel_rfl
 f6:=⟨Try.f32.name,by decide,Try.func32.trans (congrArg some (by kernel_rfl))⟩
 f14:=⟨Try.f61.name,by decide,Try.func61.trans (congrArg some (by kernel_rfl))⟩
 f15:=Try.func62.trans (congrArg some (by kernel_rfl))
 f20:=⟨Try.f86.name,by decide,Try.func86.trans (congrArg some (by kernel_rfl))⟩
 f21:=⟨Try.f87.name,by decide,Try.func87.trans (congrArg some (by kernel_rfl))⟩
 f22:=⟨Try.f88.name,by decide,Try.func88.trans (congrArg some (by kernel_rfl))⟩
 f23:=⟨Try.f89.name,by decide,Try.func89.trans (congrArg some (by kernel_rfl))⟩
 f24:=⟨Try.f90.name,by decide,Try.func90.trans (congrArg some (by kernel_rfl))⟩
 f25:=⟨Try.f91.name,by decide,Try.func91.trans (congrArg some (by kernel_rfl))⟩
 f26:=⟨Try.f92.name,by decide,Try.func92.trans (congrArg some (by kernel_rfl))⟩
 f27:=⟨Try.f93.name,by decide,Try.func93.trans (congrArg some (by kernel_rfl))⟩
 f28:=Try.func94.trans (congrArg some (by kernel_rfl))
 f29:=Try.func95.trans (congrArg some (by kernel_rfl))
 f46:=⟨Try.f110.name,by decide,Try.func110.trans (congrArg some (by kernel_rfl))⟩
 f47:=Try.func111.trans (congrArg some (by kernel_rfl))
 f48:=Try.func112.trans (congrArg some (by kernel_rfl))
 f49:=⟨Try.f113.name,by decide,Try.func113.trans (congrArg some (by kernel_rfl))⟩
 f50:=⟨Try.f114.name,by decide,Try.func114.trans (congrArg some (by kernel_rfl))⟩
 f57:=⟨Try.f117.name,by decide,Try.func117.trans (congrArg some (by kernel_rfl))⟩
 t0:=Try.underlying0
 a0:=Try.isAgg0
 z0:=Try.sizeOf0
 v0:=Try.zeroValue0
 t3:=Try.underlying3
 a3:=Try.isAgg3
 z3:=Try.sizeOf3
 v3:=Try.zeroValue3
 t4:=Try.underlying4
 a4:=Try.isAgg4
 z4:=Try.sizeOf4
 v4:=Try.zeroValue4
 t5:=Try.underlying5
 a5:=Try.isAgg5
 z5:=Try.sizeOf5
 v5:=Try.zeroValue5
 t9:=Try.underlying9
 a9:=Try.isAgg9
 z9:=Try.sizeOf9
 v9:=Try.zeroValue9
 t22:=Try.underlying22
 a22:=Try.isAgg22
 z22:=Try.sizeOf22
 v22:=Try.zeroValue22
 a24:=Try.isAgg23
 z24:=Try.sizeOf23
 t25:=Try.underlying60
 a25:=Try.isAgg60
 z25:=Try.sizeOf60
 v25:=Try.zeroValue60
 t39:=Try.underlying94
 a39:=Try.isAgg94
 z39:=Try.sizeOf94
 v39:=Try.zeroValue94
 t45:=Try.underlying120
 a45:=Try.isAgg120
 z45:=Try.sizeOf120
 v45:=Try.zeroValue120
 t46:=Try.underlying121
 a46:=Try.isAgg121
 z46:=Try.sizeOf121
 v46:=Try.zeroValue121
 t50:=Try.underlying125
 a50:=Try.isAgg125
 z50:=Try.sizeOf125
 v50:=Try.zeroValue125
 t53:=Try.underlying128
 a53:=Try.isAgg128
 z53:=Try.sizeOf128
 v53:=Try.zeroValue128
 t55:=Try.underlying130
 a55:=Try.isAgg130
 z55:=Try.sizeOf130
 v55:=Try.zeroValue130
 t66:=Try.underlying139
 a66:=Try.isAgg139
 z66:=Try.sizeOf139
 v66:=Try.zeroValue139
 t70:=Try.underlying143
 a70:=Try.isAgg143
 z70:=Try.sizeOf143
 v70:=Try.zeroValue143
 t76:=Try.underlying147
 a76:=Try.isAgg147
 z76:=Try.sizeOf147
 v76:=Try.zeroValue147
 t77:=Try.underlying99
 a77:=Try.isAgg99
 z77:=Try.sizeOf99
 v77:=Try.zeroValue99 }
end Go.Proofs
namespace Go.Proofs.Ytoealglkenhphaa
open Go.RowKit Go.Q Go.D
open Go.Sort (grow grow_grow)
theorem project1_calls (l r : List Int) (vx vy : Value) (Gx Gy : List Nat) (w : World) (hx : C false w (.sl 1 (l.map cInt)) vx Gx) (hy : C false w (.sl 1 (r.map cInt)) vy Gy) : Calls Try.prog 33 #[vx, vy] w fun e w' => e = .returned (.int .i64 (cmpL l r)) ∧ ∃ q os', w' = grow (w.drewN q) os' := by
  have hcon := slicesCompare_calls l r vx vy Gx Gy w hx hy
  go_enter Try.func33, Try.ntmps33
  go_wp2_with (go_at_call 34; refine hcon.mono ?_; rintro e w' ⟨rfl, rfl⟩)
  go_ret
  exact ⟨rfl, 0, #[], by simp [grow, World.drewN]⟩
theorem sortRows (rows : List (List Int)) (hl : rows.length < 4611686018427387904) : FnS Try.prog 32 1 (rows.map cR) (.func (.func 33) #[] #[]) ((sortG rless rows).map cR) :=
  FnS.rows Try.sortRows ⟨_, rfl, by kernel_rfl, rfl⟩ (enters_of Try.func33 (by kernel_rfl) rfl) project1_calls rows hl
end Go.Proofs.Ytoealglkenhphaa
namespace Go.Proofs.Ytoealglkenhphaa
open Go.RowKit Go.Q Go.D
theorem implproject2 (a b : List Int) : FnT Try.prog 36 [.one (.sl 1 (a.map cInt)), .one (.sl 1 (b.map cInt))] (.a (.one (.v (.bool (decide (a = b)))))) := by
  refine FnT.walk Try.func36 rfl (by kernel_rfl) Try.ntmps36 rfl fun hlen w0 => ?_
  try simp [cPair, cToken, cExpr, cEdge, cGraph, cStep, cWalk, cChange, cBatch, cHistory, cPositions, cAutomaton, cProductStep, cPathAtom, cConjunction, cView, cDelta, cRegistered, cRegistry] at hlen
  refine AW.seq ?_
  refine AW.region ?_
  refine AWl.put (R_assign rfl (.no rfl) rfl (.const rfl)) rfl ?_
  refine AWl.nil ?_
  refine AW.seq ?_
  refine AW.region ?_
  refine AWl.put (R_move rfl (.no rfl) rfl (.tmp rfl fun _ => rfl)) rfl ?_
  refine AWl.put (R_move rfl (.no rfl) rfl (.tmp rfl fun _ => rfl)) rfl ?_
  refine AWl.put (R_callz (FnT.fr (slicesEqualInt _ _)) rfl (.no rfl) rfl (.cons (.tmp rfl fun _ => rfl) rfl (.cons (.tmp rfl fun _ => rfl) rfl .nil))) rfl ?_
  refine AWl.put (R_assign rfl (.no rfl) rfl (.tmp rfl fun _ => rfl)) rfl ?_
  refine AWl.nil ?_
  refine AW.ret ?_
  refine Res.one rfl (.tmp rfl .nil) rfl ?_
  rfl
/-- Equal rows side by side are made one. -/
theorem compactRows (rows : List (List Int)) (hz : rows.length ≤ 1099511627776) : FnC Try.prog 35 ((true, .one (.sl 1 (rows.map cR))) :: rdAll [.one (.fn (.func 36) [] [])]) (.a (.one (.sl 1 ((compactL rows).map cR)))) := by
  have hcl : Go.Q.Callee Try.prog 35 := ⟨_, rfl, by kernel_rfl, rfl⟩
  let R : Nat → List Int := fun i => rows.getD i []
  let ts : List T := rows.map fun r => .sl 1 (r.map cInt)
  have hts : ts.length = rows.length := by simp [ts]
  have hRi : ∀ i, i < rows.length → rows[i]? = some (R i) := fun i hi => by
    show _ = some (rows.getD i [])
    rw [List.getD_eq_getElem?_getD, List.getElem?_eq_getElem hi]; rfl
  have hti : ∀ i, i < rows.length → ts[i]? = some (.sl 1 ((R i).map cInt)) := fun i hi => by
    show (rows.map _)[i]? = _
    rw [List.getElem?_map, hRi i hi]; rfl
  let p : Nat → Nat → Bool := fun x y => decide (R x = R y)
  have hsub := compK_sub p (List.range rows.length)
  have h := FnC.lift (ts := ts) (L := compK p (List.range ts.length)) (rest := [.one (.fn (.func 36) [] [])]) hcl (by rw [hts]; exact hsub.nodup List.nodup_range) (fun i hi => by rw [hts] at hi ⊢; exact List.mem_range.1 (hsub.subset hi))
    fun hd K hK => by
      rw [hts]
      exact CompactRows (List.range rows.length) hd K 36 [] p (fun x y hx hy => FrTk.of2 (implproject2 (R x) (R y)).fr (hK x _ (hti x (List.mem_range.1 hx))) (hK y _ (hti y (List.mem_range.1 hy)))) (by simpa using hz)
  have e1 : (ts.map fun t => [t]) = rows.map cR := by show (rows.map _).map _ = _; rw [List.map_map]; rfl
  have hmap : (List.range rows.length).map R = rows := by
    apply List.ext_getElem?
    intro i
    by_cases hi : i < rows.length
    · rw [List.getElem?_map, List.getElem?_range hi, hRi i hi]; rfl
    · rw [List.getElem?_eq_none (by simp; omega), List.getElem?_eq_none (by omega)]
  have e2 : ((compK p (List.range ts.length)).map fun i => [ts.getD i (.v undef)]) = (compactL rows).map cR := by
    rw [hts]
    conv => rhs; rw [← hmap, ← compK_map R p _ (fun a _ b _ => rfl), List.map_map]
    refine List.map_congr_left fun i hi => ?_
    have hil := List.mem_range.1 (hsub.subset hi)
    rw [List.getD_eq_getElem?_getD, hti i hil]
    rfl
  rw [e1, e2] at h
  exact h
theorem implProjectBindings (rows : List (List Int)) (vars : List Int) (hz : rows.length ≤ 1048576) (hr : ∀ r ∈ rows, r.length ≤ 1048576) (hv : vars.length ≤ 1048576) : FnT Try.prog 9 [.one (.sl 1 (rows.map cIntS)), .one (.sl 1 (vars.map cInt))] (.a (.one (.sl 1 ((projB rows vars).map cIntS)))) := by
  refine FnT.walk Try.func9 rfl (by kernel_rfl) Try.ntmps9 rfl fun hlen w0 => ?_
  try simp [cPair, cToken, cExpr, cEdge, cGraph, cStep, cWalk, cChange, cBatch, cHistory, cPositions, cAutomaton, cProductStep, cPathAtom, cConjunction, cView, cDelta, cRegistered, cRegistry] at hlen
  refine AW.seq ?_
  refine AW.region ?_
  refine AWl.put (R_assign rfl (.no rfl) rfl (.const rfl)) rfl ?_
  refine AWl.nilS (i := 4) 20001 1 rfl rfl ?_
  refine AWl.nil ?_
  refine AW.seq ?_
  refine AW.region ?_
  refine AWl.add (R_empty 11 rfl rfl rfl Try.underlying22 ty23 rfl) rfl ?_
  refine AWl.put (R_assign rfl (.no rfl) rfl (.tmp rfl fun _ => rfl)) rfl ?_
  refine AWl.nil ?_
  refine AW.seq ?_
  refine AW.seq ?_
  refine AW.region ?_
  refine AWl.put (R_move rfl (.no rfl) rfl (.tmp rfl fun _ => rfl)) rfl ?_
  refine AWl.put ((by first | exact R_lenm rfl (.no rfl) rfl (.tmp rfl fun _ => rfl) (by first | exact .t | exact .rf rfl | exact .vw | exact .nil) Try.underlying22 | exact R_len rfl (.no rfl) rfl (.tmp rfl fun _ => rfl) (by first | exact .t | exact .rf rfl | exact .vw | exact .nil) Try.underlying22)) rfl ?_
  refine AWl.put (R_move rfl (.no rfl) rfl (.const rfl)) rfl ?_
  refine AWl.nil ?_
  refine AW.block ?_
  refine AW.loop1 (fun (k : Nat) => (k ≤ rows.length ∧ ∀ j r, j < k → rows[j]? = some r → okVars vars r = true) ∧ True) (fun (k : Nat) => ⟨_, [(14, (true, .a (.one (.t (.v (.int .i64 (k : Nat))))))), (5, (true, .a (.one (.rf 11)))), (1, _), (12, _), (13, _)], [(11, .row 1 (((rows.take k).map (projR vars)).map cIntS))]⟩) (fun (k : Nat) => rows.length - k) (0) ⟨⟨Nat.zero_le _, fun j r hj => absurd hj (Nat.not_lt_zero j)⟩, trivial⟩ (Le.sub0 rfl ⟨rfl, rfl, rfl, rfl, rfl, trivial⟩ ⟨rfl, trivial⟩) ?_
  rintro k ⟨hk, he⟩
  refine AW.seq ?_
  refine AW.region ?_
  refine AWl.put (R_lt rfl (.no rfl) rfl (.tmp rfl fun _ => rfl) (.tmp rfl fun _ => rfl)) rfl ?_
  refine AWl.nil ?_
  refine AW.seq ?_
  refine AW.cond (.tmp rfl fun _ => rfl) (fun h15 => ?_) (fun h15 => ?_)
  · skip
    try simp at h15
    obtain ⟨x, hx⟩ : ∃ ξ, rows[k]? = some ξ := ⟨_, List.getElem?_eq_getElem (by omega)⟩
    have hxl := hr x (List.mem_of_getElem? hx)
    refine AW.skip ?_
    refine AW.seq ?_
    refine AW.block ?_
    refine AW.seq ?_
    refine AW.region ?_
    refine AWl.put ((by first | exact R_indexAddr rfl (.no rfl) rfl (.tmp rfl fun _ => rfl) (.tmp rfl fun _ => rfl) Try.underlying22 ty23 (fun _ => ⟨by omega, (by first | exact map_get hx | exact map_get hy | exact map_get hyg.2)⟩) | exact R_indexAddr_vw rfl (.no rfl) rfl (.tmp rfl fun _ => rfl) (.tmp rfl fun _ => rfl) Try.underlying22 ty23 (fun _ => ⟨by omega, (by first | exact map_get hx | exact map_get hy | exact map_get hyg.2)⟩) | exact R_indexAddr_rf rfl (.no rfl) rfl (.tmp rfl fun _ => rfl) rfl (.tmp rfl fun _ => rfl) Try.underlying22 ty23 (fun _ => ⟨by omega, (by first | exact map_get hx | exact map_get hy | exact map_get hyg.2)⟩))) rfl ?_
    refine AWl.put ((by first | exact R_load rfl (.no rfl) rfl (.tmp rfl fun _ => rfl) ty23 rfl rfl | exact R_load_pp rfl (.no rfl) rfl (.tmp rfl fun _ => rfl) rfl ty23 rfl rfl | exact R_load_vw rfl (.no rfl) rfl (.tmp rfl fun _ => rfl) ty23 rfl rfl | exact R_load_pr rfl (.no rfl) rfl (.tmp rfl fun _ => rfl) rfl (by first | exact map_get hx | exact map_get hy | exact map_get hyg.2) ty23 rfl rfl)) rfl ?_
    refine AWl.put (R_assign rfl (.no rfl) rfl (.tmp rfl fun _ => rfl)) rfl ?_
    refine AWl.nil ?_
    refine AW.seq ?_
    refine AW.region ?_
    refine AWl.add (R_empty 18 rfl rfl rfl Try.underlying23 ty3 rfl) rfl ?_
    refine AWl.put (R_assign rfl (.no rfl) rfl (.tmp rfl fun _ => rfl)) rfl ?_
    refine AWl.nil ?_
    refine AW.seq ?_
    refine AW.seq ?_
    refine AW.region ?_
    refine AWl.put (R_move rfl (.no rfl) rfl (.tmp rfl fun _ => rfl)) rfl ?_
    refine AWl.put ((by first | exact R_lenm rfl (.no rfl) rfl (.tmp rfl fun _ => rfl) (by first | exact .t | exact .rf rfl | exact .vw | exact .nil) Try.underlying23 | exact R_len rfl (.no rfl) rfl (.tmp rfl fun _ => rfl) (by first | exact .t | exact .rf rfl | exact .vw | exact .nil) Try.underlying23)) rfl ?_
    refine AWl.put (R_move rfl (.no rfl) rfl (.const rfl)) rfl ?_
    refine AWl.nil ?_
    refine AW.block ?_
    refine AW.loop1 (fun (k1 : Nat) => (k1 ≤ vars.length ∧ ∀ j v, j < k1 → vars[j]? = some v → okVar x v = true) ∧ True) (fun (k1 : Nat) => ⟨_, [(21, (true, .a (.one (.t (.v (.int .i64 (k1 : Nat))))))), (8, (true, .a (.one (.rf 18)))), (1, _), (5, _), (7, _), (12, _), (13, _), (14, _), (19, _), (20, _)], [(11, .row 1 (((rows.take k).map (projR vars)).map cIntS)), (18, .row 1 (((vars.take k1).map fun v => x[v.toNat]?.getD 0).map cInt))]⟩) (fun (k1 : Nat) => vars.length - k1) (0) ⟨⟨Nat.zero_le _, fun j r hj => absurd hj (Nat.not_lt_zero j)⟩, trivial⟩ (Le.sub0 rfl ⟨rfl, rfl, rfl, rfl, rfl, rfl, rfl, rfl, rfl, rfl, trivial⟩ ⟨rfl, rfl, trivial⟩) ?_
    rintro k1 ⟨hk1, he1⟩
    refine AW.seq ?_
    refine AW.region ?_
    refine AWl.put (R_lt rfl (.no rfl) rfl (.tmp rfl fun _ => rfl) (.tmp rfl fun _ => rfl)) rfl ?_
    refine AWl.nil ?_
    refine AW.seq ?_
    refine AW.cond (.tmp rfl fun _ => rfl) (fun h22 => ?_) (fun h22 => ?_)
    · skip
      try simp at h22
      obtain ⟨y, hy⟩ : ∃ ξ, vars[k1]? = some ξ := ⟨_, List.getElem?_eq_getElem (by omega)⟩
      refine AW.skip ?_
      refine AW.seq ?_
      refine AW.block ?_
      refine AW.seq ?_
      refine AW.region ?_
      refine AWl.put ((by first | exact R_indexAddr rfl (.no rfl) rfl (.tmp rfl fun _ => rfl) (.tmp rfl fun _ => rfl) Try.underlying23 ty3 (fun _ => ⟨by omega, (by first | exact map_get hx | exact map_get hy | exact map_get hyg.2)⟩) | exact R_indexAddr_vw rfl (.no rfl) rfl (.tmp rfl fun _ => rfl) (.tmp rfl fun _ => rfl) Try.underlying23 ty3 (fun _ => ⟨by omega, (by first | exact map_get hx | exact map_get hy | exact map_get hyg.2)⟩) | exact R_indexAddr_rf rfl (.no rfl) rfl (.tmp rfl fun _ => rfl) rfl (.tmp rfl fun _ => rfl) Try.underlying23 ty3 (fun _ => ⟨by omega, (by first | exact map_get hx | exact map_get hy | exact map_get hyg.2)⟩))) rfl ?_
      refine AWl.put ((by first | exact R_load rfl (.no rfl) rfl (.tmp rfl fun _ => rfl) ty3 rfl rfl | exact R_load_pp rfl (.no rfl) rfl (.tmp rfl fun _ => rfl) rfl ty3 rfl rfl | exact R_load_vw rfl (.no rfl) rfl (.tmp rfl fun _ => rfl) ty3 rfl rfl | exact R_load_pr rfl (.no rfl) rfl (.tmp rfl fun _ => rfl) rfl (by first | exact map_get hx | exact map_get hy | exact map_get hyg.2) ty3 rfl rfl)) rfl ?_
      refine AWl.put (R_assign rfl (.no rfl) rfl (.tmp rfl fun _ => rfl)) rfl ?_
      refine AWl.nil ?_
      refine AW.seq ?_
      refine AW.seq ?_
      refine AW.region ?_
      refine AWl.put (R_move rfl (.no rfl) rfl (.tmp rfl fun _ => rfl)) rfl ?_
      refine AWl.put (R_move rfl (.no rfl) rfl (.tmp rfl fun _ => rfl)) rfl ?_
      refine AWl.put ((by first | exact R_lenm rfl (.no rfl) rfl (.tmp rfl fun _ => rfl) (by first | exact .t | exact .rf rfl | exact .vw | exact .nil) Try.underlying23 | exact R_len rfl (.no rfl) rfl (.tmp rfl fun _ => rfl) (by first | exact .t | exact .rf rfl | exact .vw | exact .nil) Try.underlying23)) rfl ?_
      refine AWl.put (R_sub rfl (.no rfl) rfl (.tmp rfl fun _ => rfl) (.const rfl) (fun _ => by omega)) rfl ?_
      refine AWl.put (R_callz (FnT.fr (implwithin _ _ _)) rfl (.no rfl) rfl (.cons (.tmp rfl fun _ => rfl) rfl (.cons (.const rfl) rfl (.cons (.tmp rfl fun _ => rfl) rfl .nil)))) rfl ?_
      refine AWl.put (R_not rfl (.no rfl) rfl (.tmp rfl fun _ => rfl)) rfl ?_
      refine AWl.nil ?_
      refine AW.cond (.tmp rfl fun _ => rfl) (fun h30 => ?_) (fun h30 => ?_)
      · skip
        skip
        have hno : okVar x y = false := by (unfold okVar; simpa using h30)
        refine AW.seq ?_
        refine AW.le (σ' := ⟨_, [(1, _), (5, _), (7, _), (8, _), (10, _), (12, _), (13, _), (14, _), (19, _), (20, _), (21, _)], [(11, _), (18, _)]⟩) (Le.sub0 rfl ⟨rfl, rfl, rfl, rfl, rfl, rfl, rfl, rfl, rfl, rfl, rfl, trivial⟩ ⟨rfl, rfl, trivial⟩) ?_
        refine AW.region ?_
        refine AWl.put (R_assign rfl (.no rfl) rfl (.const rfl)) rfl ?_
        refine AWl.nilS (i := 4) 20002 1 rfl rfl ?_
        refine AWl.nil ?_
        refine AW.ret ?_
        refine Res.one rfl (.tmp rfl .nil) rfl ?_
        rw [projB_not (List.mem_of_getElem? hx) (List.mem_of_getElem? hy) hno]; rfl
      · skip
        skip
        have hyes : okVar x y = true := by (unfold okVar; simpa using h30)
        have hyg := okVar_get hyes
        refine AW.skip ?_
        refine AW.le (σ' := ⟨_, [(1, _), (5, _), (7, _), (8, _), (10, _), (12, _), (13, _), (14, _), (19, _), (20, _), (21, _)], [(11, _), (18, _)]⟩) (Le.sub0 rfl ⟨rfl, rfl, rfl, rfl, rfl, rfl, rfl, rfl, rfl, rfl, rfl, trivial⟩ ⟨rfl, rfl, trivial⟩) ?_
        refine AW.region ?_
        refine AWl.put (R_move rfl (.no rfl) rfl (.tmp rfl fun _ => rfl)) rfl ?_
        refine AWl.put (R_move rfl (.no rfl) rfl (.tmp rfl fun _ => rfl)) rfl ?_
        refine AWl.put (R_move rfl (.no rfl) rfl (.tmp rfl fun _ => rfl)) rfl ?_
        refine AWl.put ((by first | exact R_indexAddr rfl (.no rfl) rfl (.tmp rfl fun _ => rfl) (.tmp rfl fun _ => rfl) Try.underlying23 ty3 (fun _ => ⟨by omega, map_get hyg.2⟩) | exact R_indexAddr_vw rfl (.no rfl) rfl (.tmp rfl fun _ => rfl) (.tmp rfl fun _ => rfl) Try.underlying23 ty3 (fun _ => ⟨by omega, map_get hyg.2⟩) | exact R_indexAddr_rf rfl (.no rfl) rfl (.tmp rfl fun _ => rfl) rfl (.tmp rfl fun _ => rfl) Try.underlying23 ty3 (fun _ => ⟨by omega, map_get hyg.2⟩))) rfl ?_
        refine AWl.put ((by first | exact R_load rfl (.no rfl) rfl (.tmp rfl fun _ => rfl) ty3 rfl rfl | exact R_load_pp rfl (.no rfl) rfl (.tmp rfl fun _ => rfl) rfl ty3 rfl rfl | exact R_load_vw rfl (.no rfl) rfl (.tmp rfl fun _ => rfl) ty3 rfl rfl | exact R_load_pr rfl (.no rfl) rfl (.tmp rfl fun _ => rfl) rfl map_get hyg.2 ty3 rfl rfl)) rfl ?_
        refine AWl.absadd (R_list (xs := [.tmp 35]) 36 rfl rfl rfl (.cons (.tmp rfl fun _ => rfl) rfl rfl .nil) Try.underlying23 in3 rfl rfl rfl rfl) rfl ?_
        refine AWl.abschgput (R_append_own rfl rfl rfl (.tmp rfl fun _ => rfl) rfl (.tmp rfl fun _ => rfl) rfl rfl Try.underlying23 in3 rfl (by first | omega | (simp [chunk]; omega) | (simp only [List.length_map, List.length_append, List.length_cons, List.length_nil, chunk]; omega)) (by first | omega | (unfold maxLen; omega) | (unfold maxLen; simp [chunk]; omega) | (unfold maxLen; simp only [List.length_map, List.length_append, List.length_cons, List.length_nil, chunk]; omega))) rfl ?_
        refine AWl.le (σ' := ⟨_, [(1, _), (5, _), (7, _), (8, _), (10, _), (12, _), (13, _), (14, _), (19, _), (20, _), (21, _), (37, _)], [(11, _), (18, _)]⟩) (Le.sub0 rfl ⟨rfl, rfl, rfl, rfl, rfl, rfl, rfl, rfl, rfl, rfl, rfl, rfl, trivial⟩ ⟨rfl, rfl, trivial⟩) ?_
        refine AWl.put (R_assign rfl (.no rfl) rfl (.tmp rfl fun _ => rfl)) rfl ?_
        refine AWl.nil ?_
        refine AW.region ?_
        refine AWl.put (R_add rfl (.no rfl) rfl (.tmp rfl fun _ => rfl) (.const rfl) (fun _ => by omega)) rfl ?_
        refine AWl.put (R_move rfl (.no rfl) rfl (.tmp rfl fun _ => rfl)) rfl ?_
        refine AWl.nil ?_
        repeat (with_reducible refine BlockQ.nor ?_)
        refine Round1.next (k1 + 1) ⟨⟨by omega, each_succ hk1.2 hy hyes⟩, trivial⟩ (by omega) (Le.sub0 rfl ⟨rfl, rfl, rfl, rfl, rfl, rfl, rfl, rfl, rfl, rfl, trivial⟩ ⟨(by first | rfl | (refine congrArg (fun r => some (R.row 1 r)) ?_; rw [take_at hx, List.take_of_length_le (l := vars) (by omega)]; simp [cIntS, projR, chunk])), (by refine congrArg (fun r => some (R.row 1 r)) ?_; simp [take_at hy, cInt, chunk]), trivial⟩)
    · skip
      try simp at h22
      refine AW.exit ?_
      refine AW.region ?_
      refine AWl.put (R_move rfl (.no rfl) rfl (.tmp rfl fun _ => rfl)) rfl ?_
      refine AWl.put (R_move rfl (.no rfl) rfl (.tmp rfl fun _ => rfl)) rfl ?_
      refine AWl.absadd (R_list (xs := [.tmp 40]) 41 rfl rfl rfl (.cons (.tmp rfl fun _ => rfl) rfl rfl .nil) Try.underlying22 in23 rfl rfl rfl rfl) rfl ?_
      refine AWl.abschgput (R_append_own rfl rfl rfl (.tmp rfl fun _ => rfl) rfl (.tmp rfl fun _ => rfl) rfl rfl Try.underlying22 in23 rfl (by first | omega | (simp [chunk]; omega) | (simp only [List.length_map, List.length_append, List.length_cons, List.length_nil, chunk]; omega)) (by first | omega | (unfold maxLen; omega) | (unfold maxLen; simp [chunk]; omega) | (unfold maxLen; simp only [List.length_map, List.length_append, List.length_cons, List.length_nil, chunk]; omega))) rfl ?_
      refine AWl.le (σ' := ⟨_, [(1, _), (5, _), (7, _), (8, _), (12, _), (13, _), (14, _), (19, _), (20, _), (21, _), (22, _), (42, _)], [(11, _)]⟩) (Le.sub0 rfl ⟨rfl, rfl, rfl, rfl, rfl, rfl, rfl, rfl, rfl, rfl, rfl, rfl, trivial⟩ ⟨rfl, trivial⟩) ?_
      refine AWl.put (R_assign rfl (.no rfl) rfl (.tmp rfl fun _ => rfl)) rfl ?_
      refine AWl.nil ?_
      refine AW.region ?_
      refine AWl.put (R_add rfl (.no rfl) rfl (.tmp rfl fun _ => rfl) (.const rfl) (fun _ => by omega)) rfl ?_
      refine AWl.put (R_move rfl (.no rfl) rfl (.tmp rfl fun _ => rfl)) rfl ?_
      refine AWl.nil ?_
      repeat (with_reducible refine BlockQ.nor ?_)
      refine Round1.next (k + 1) ⟨⟨by omega, fun j r hj hr => (by by_cases e : j = k; (subst e; rw [hx] at hr; cases hr; exact List.all_eq_true.2 fun v hv' => by obtain ⟨i, hi⟩ := List.getElem?_of_mem hv'; exact hk1.2 i v (by have := (List.getElem?_eq_some_iff.1 hi).1; omega) hi); exact hk.2 j r (by omega) hr)⟩, trivial⟩ (by omega) (Le.sub0 rfl ⟨rfl, rfl, rfl, rfl, rfl, trivial⟩ ⟨(by first | rfl | (refine congrArg (fun r => some (R.row 1 r)) ?_; rw [take_at hx, List.take_of_length_le (l := vars) (by omega)]; simp [cIntS, projR, chunk])), trivial⟩)
  · skip
    try simp at h15
    refine AW.exit ?_
    refine AW.seq ?_
    refine AW.region ?_
    refine AWl.put (R_move rfl (.no rfl) rfl (.tmp rfl fun _ => rfl)) rfl ?_
    refine AWl.updput (R_sortc rfl rfl rfl (.tmp rfl fun _ => rfl) rfl .func (sortRows ((rows.take k).map (projR vars)) (by simp; omega))) rfl ?_
    refine AWl.nil ?_
    refine AW.seq ?_
    refine AW.region ?_
    refine AWl.put (R_move rfl (.no rfl) rfl (.tmp rfl fun _ => rfl)) rfl ?_
    apply AWl.consume
    case ho =>
      apply R_consume (xo := .tmp 46) 4700 (compactRows (sortG rless ((rows.take k).map (projR vars))) (by rw [sortG_len]; simp; omega)) rfl rfl rfl (.tmp rfl fun _ => rfl)
      case ha => rfl
      case hargs => exact (ArgC.own (ArgRd.one .func .nil))
      all_goals rfl
    case hd => rfl
    refine AWl.put (R_assign rfl (.no rfl) rfl (.tmp rfl fun _ => rfl)) rfl ?_
    refine AWl.nil ?_
    refine AW.ret ?_
    refine Res.one rfl (.tmp rfl .nil) rfl ?_
    rw [compact_sort rless_so, List.take_of_length_le (by omega), ← projB_all (fun j r hj hr => hk.2 j r (by omega) hr)]; rfl
end Go.Proofs.Ytoealglkenhphaa
