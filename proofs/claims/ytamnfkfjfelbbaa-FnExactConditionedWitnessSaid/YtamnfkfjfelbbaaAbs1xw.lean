import Derived.Test.YtamnfkfjfelbbaaTabxw
set_option linter.unusedVariables false
set_option linter.unusedSimpArgs false
namespace Go.Q
open Go.RowKit
inductive T where
 | v (x : Value)
 | sl (k : Nat) (rows : List (List T))
 | ad (cs : List T)
 | fn (f : Fn) (first caps : List T)
mutual
def C (o : Bool) (w : World) : T → Value → List Nat → Prop
 | .v x, c, F => c = x ∧ F = [] ∧ x.oneCell' = true
 | .sl k rows, c, F => ∃ a len cap, c = .slice a len cap ∧ rows.length = len ∧ len ≤ cap ∧ cap ≤ maxLen ∧
  ((len = 0 ∧ F = [] ∧ (o = true → cap = 0)) ∨ ∃ b off G, a = some ⟨b, off, none⟩ ∧ F = b :: G ∧ b < w.heap.size ∧
   (o = true → off = 0 ∧ ∃ cur e, w.heap[b]? = some (.cells cur e (0, 0)) ∧ cur.size = cap * k) ∧ Rws o w b k off rows G)
 | .ad cs, c, F => ∃ b off G, c = .pointer (some ⟨b, off, none⟩) ∧ F = b :: G ∧ b < w.heap.size ∧ Ms o w b off cs G
 | .fn f first caps, c, F => ∃ xs ys G1 G2, c = .func f (List.toArray xs) (List.toArray ys) ∧ Cs o w first xs G1 ∧ Cs o w caps ys G2 ∧ F = G1 ++ G2
def Cs (o : Bool) (w : World) : List T → List Value → List Nat → Prop
 | [], cs, F => cs = [] ∧ F = []
 | t :: r, cs, F => ∃ c cr G1 G2, cs = c :: cr ∧ C o w t c G1 ∧ Cs o w r cr G2 ∧ F = G1 ++ G2
def Ms (o : Bool) (w : World) (b : Nat) : Nat → List T → List Nat → Prop
 | _, [], F => F = []
 | off, t :: r, F => ∃ c G1 G2, w.cell? ⟨b, off, none⟩ = some c ∧ C o w t c G1 ∧ Ms o w b (off + 1) r G2 ∧ F = G1 ++ G2
def Rws (o : Bool) (w : World) (b k : Nat) : Nat → List (List T) → List Nat → Prop
 | _, [], F => F = []
 | off, row :: r, F => ∃ G1 G2, row.length = k ∧ Ms o w b off row G1 ∧ Rws o w b k (off + k) r G2 ∧ F = G1 ++ G2
end

theorem heap_lt {w w' : World} {b : Nat} (h : w'.heap[b]? = w.heap[b]?) (hb : b < w.heap.size) : b < w'.heap.size := by
 rw [Array.getElem?_eq_getElem hb] at h
 exact (Array.getElem?_eq_some_iff.1 h).1
mutual
theorem C.congr {o : Bool} {w w' : World} : ∀ {t : T} {c : Value} {F : List Nat}, C o w t c F → (∀ b ∈ F, w'.heap[b]? = w.heap[b]?) → C o w' t c F
 | .v _, _, _, h, _ => by simpa only [C] using h
 | .sl k rows, c, F, h, hc => by
  simp only [C] at h ⊢
  obtain ⟨a, len, cap, h1, h2, h3, h4, h5⟩ := h
  refine ⟨a, len, cap, h1, h2, h3, h4, ?_⟩
  rcases h5 with h5 | ⟨b, off, G, h6, rfl, h7, h8, h9⟩
  · exact .inl h5
  · refine .inr ⟨b, off, G, h6, rfl, heap_lt (hc b (by simp)) h7, fun ho => ?_, Rws.congr h9 (hc b (by simp)) fun b' hb' => hc b' (by simp [hb'])⟩
    obtain ⟨h10, cur, e, h11, h12⟩ := h8 ho
    exact ⟨h10, cur, e, (hc b (by simp)).trans h11, h12⟩
 | .ad cs, c, F, h, hc => by
  simp only [C] at h ⊢
  obtain ⟨b, off, G, h1, rfl, h2, h3⟩ := h
  exact ⟨b, off, G, h1, rfl, heap_lt (hc b (by simp)) h2, Ms.congr h3 (hc b (by simp)) fun b' hb' => hc b' (by simp [hb'])⟩
 | .fn f first caps, c, F, h, hc => by
  simp only [C] at h ⊢
  obtain ⟨xs, ys, G1, G2, h1, h2, h3, rfl⟩ := h
  exact ⟨xs, ys, G1, G2, h1, Cs.congr h2 fun b hb => hc b (by simp [hb]), Cs.congr h3 fun b hb => hc b (by simp [hb]), rfl⟩
theorem Cs.congr {o : Bool} {w w' : World} : ∀ {ts : List T} {cs : List Value} {F : List Nat}, Cs o w ts cs F → (∀ b ∈ F, w'.heap[b]? = w.heap[b]?) → Cs o w' ts cs F
 | [], _, _, h, _ => by simpa only [Cs] using h
 | t :: r, cs, F, h, hc => by
  simp only [Cs] at h ⊢
  obtain ⟨c, cr, G1, G2, h1, h2, h3, rfl⟩ := h
  exact ⟨c, cr, G1, G2, h1, C.congr h2 fun b hb => hc b (by simp [hb]), Cs.congr h3 fun b hb => hc b (by simp [hb]), rfl⟩
theorem Ms.congr {o : Bool} {w w' : World} {b : Nat} : ∀ {ts : List T} {off : Nat} {F : List Nat}, Ms o w b off ts F → w'.heap[b]? = w.heap[b]? → (∀ b ∈ F, w'.heap[b]? = w.heap[b]?) → Ms o w' b off ts F
 | [], _, _, h, _, _ => by simpa only [Ms] using h
 | t :: r, off, F, h, h0, hc => by
  simp only [Ms] at h ⊢
  obtain ⟨c, G1, G2, h1, h2, h3, rfl⟩ := h
  exact ⟨c, G1, G2, (World.cell?_of_block (a := ⟨b, off, none⟩) h0).trans h1, C.congr h2 fun b hb => hc b (by simp [hb]), Ms.congr h3 h0 fun b hb => hc b (by simp [hb]), rfl⟩
theorem Rws.congr {o : Bool} {w w' : World} {b k : Nat} : ∀ {rs : List (List T)} {off : Nat} {F : List Nat}, Rws o w b k off rs F → w'.heap[b]? = w.heap[b]? → (∀ b ∈ F, w'.heap[b]? = w.heap[b]?) → Rws o w' b k off rs F
 | [], _, _, h, _, _ => by simpa only [Rws] using h
 | t :: r, off, F, h, h0, hc => by
  simp only [Rws] at h ⊢
  obtain ⟨G1, G2, h1, h2, h3, rfl⟩ := h
  exact ⟨G1, G2, h1, Ms.congr h2 h0 fun b hb => hc b (by simp [hb]), Rws.congr h3 h0 fun b hb => hc b (by simp [hb]), rfl⟩
end
mutual
theorem C.lt {o : Bool} {w : World} : ∀ {t : T} {c : Value} {F : List Nat}, C o w t c F → ∀ b ∈ F, b < w.heap.size
 | .v _, _, F, h, b, hb => by simp only [C] at h; obtain ⟨_, rfl, _⟩ := h; cases hb
 | .sl k rows, c, F, h, b, hb => by
  simp only [C] at h
  obtain ⟨a, len, cap, h1, h2, h3, h4, h5⟩ := h
  rcases h5 with ⟨_, rfl, _⟩ | ⟨b', off, G, h6, rfl, h7, h8, h9⟩
  · cases hb
  · rcases List.mem_cons.1 hb with rfl | hb
    · exact h7
    · exact Rws.lt h9 b hb
 | .ad cs, c, F, h, b, hb => by
  simp only [C] at h
  obtain ⟨b', off, G, h1, rfl, h2, h3⟩ := h
  rcases List.mem_cons.1 hb with rfl | hb
  · exact h2
  · exact Ms.lt h3 b hb
 | .fn f first caps, c, F, h, b, hb => by
  simp only [C] at h
  obtain ⟨xs, ys, G1, G2, h1, h2, h3, rfl⟩ := h
  rcases List.mem_append.1 hb with hb | hb
  · exact Cs.lt h2 b hb
  · exact Cs.lt h3 b hb
theorem Cs.lt {o : Bool} {w : World} : ∀ {ts : List T} {cs : List Value} {F : List Nat}, Cs o w ts cs F → ∀ b ∈ F, b < w.heap.size
 | [], _, F, h, b, hb => by simp only [Cs] at h; obtain ⟨_, rfl⟩ := h; cases hb
 | t :: r, cs, F, h, b, hb => by
  simp only [Cs] at h
  obtain ⟨c, cr, G1, G2, h1, h2, h3, rfl⟩ := h
  rcases List.mem_append.1 hb with hb | hb
  · exact C.lt h2 b hb
  · exact Cs.lt h3 b hb
theorem Ms.lt {o : Bool} {w : World} {b0 : Nat} : ∀ {ts : List T} {off : Nat} {F : List Nat}, Ms o w b0 off ts F → ∀ b ∈ F, b < w.heap.size
 | [], _, F, h, b, hb => by simp only [Ms] at h; subst h; cases hb
 | t :: r, off, F, h, b, hb => by
  simp only [Ms] at h
  obtain ⟨c, G1, G2, h1, h2, h3, rfl⟩ := h
  rcases List.mem_append.1 hb with hb | hb
  · exact C.lt h2 b hb
  · exact Ms.lt h3 b hb
theorem Rws.lt {o : Bool} {w : World} {b0 k : Nat} : ∀ {rs : List (List T)} {off : Nat} {F : List Nat}, Rws o w b0 k off rs F → ∀ b ∈ F, b < w.heap.size
 | [], _, F, h, b, hb => by simp only [Rws] at h; subst h; cases hb
 | t :: r, off, F, h, b, hb => by
  simp only [Rws] at h
  obtain ⟨G1, G2, h1, h2, h3, rfl⟩ := h
  rcases List.mem_append.1 hb with hb | hb
  · exact Ms.lt h2 b hb
  · exact Rws.lt h3 b hb
end
mutual
theorem C.read {w : World} : ∀ {t : T} {c : Value} {F : List Nat}, C true w t c F → C false w t c F
 | .v _, _, _, h => by simpa only [C] using h
 | .sl k rows, c, F, h => by
  simp only [C] at h ⊢
  obtain ⟨a, len, cap, h1, h2, h3, h4, h5⟩ := h
  refine ⟨a, len, cap, h1, h2, h3, h4, ?_⟩
  rcases h5 with ⟨h5, h6, _⟩ | ⟨b, off, G, h6, rfl, h7, h8, h9⟩
  · exact .inl ⟨h5, h6, by simp⟩
  · exact .inr ⟨b, off, G, h6, rfl, h7, by simp, Rws.read h9⟩
 | .ad cs, c, F, h => by
  simp only [C] at h ⊢
  obtain ⟨b, off, G, h1, rfl, h2, h3⟩ := h
  exact ⟨b, off, G, h1, rfl, h2, Ms.read h3⟩
 | .fn f first caps, c, F, h => by
  simp only [C] at h ⊢
  obtain ⟨xs, ys, G1, G2, h1, h2, h3, rfl⟩ := h
  exact ⟨xs, ys, G1, G2, h1, Cs.read h2, Cs.read h3, rfl⟩
theorem Cs.read {w : World} : ∀ {ts : List T} {cs : List Value} {F : List Nat}, Cs true w ts cs F → Cs false w ts cs F
 | [], _, _, h => by simpa only [Cs] using h
 | t :: r, cs, F, h => by
  simp only [Cs] at h ⊢
  obtain ⟨c, cr, G1, G2, h1, h2, h3, rfl⟩ := h
  exact ⟨c, cr, G1, G2, h1, C.read h2, Cs.read h3, rfl⟩
theorem Ms.read {w : World} {b : Nat} : ∀ {ts : List T} {off : Nat} {F : List Nat}, Ms true w b off ts F → Ms false w b off ts F
 | [], _, _, h => by simpa only [Ms] using h
 | t :: r, off, F, h => by
  simp only [Ms] at h ⊢
  obtain ⟨c, G1, G2, h1, h2, h3, rfl⟩ := h
  exact ⟨c, G1, G2, h1, C.read h2, Ms.read h3, rfl⟩
theorem Rws.read {w : World} {b k : Nat} : ∀ {rs : List (List T)} {off : Nat} {F : List Nat}, Rws true w b k off rs F → Rws false w b k off rs F
 | [], _, _, h => by simpa only [Rws] using h
 | t :: r, off, F, h => by
  simp only [Rws] at h ⊢
  obtain ⟨G1, G2, h1, h2, h3, rfl⟩ := h
  exact ⟨G1, G2, h1, Ms.read h2, Rws.read h3, rfl⟩
end
theorem C.read' {o : Bool} {w : World} {t : T} {c : Value} {F : List Nat} (h : C o w t c F) : C false w t c F := by cases o; exact h; exact h.read
theorem C.mono {o : Bool} {w w' : World} {t : T} {c : Value} {F : List Nat} (h : C o w t c F) (he : Ext w w') : C o w' t c F := h.congr fun b hb => he.block (h.lt b hb)
theorem Cs.mono {o : Bool} {w w' : World} {t : List T} {c : List Value} {F : List Nat} (h : Cs o w t c F) (he : Ext w w') : Cs o w' t c F := h.congr fun b hb => he.block (h.lt b hb)
theorem Rws.get {o : Bool} {w : World} {b k : Nat} : ∀ {rs : List (List T)} {off : Nat} {F : List Nat}, Rws o w b k off rs F → ∀ {i : Nat} {row : List T}, rs[i]? = some row → ∃ G, Ms o w b (off + i * k) row G ∧ row.length = k ∧ ∀ x ∈ G, x ∈ F
 | [], _, _, _, i, row, hi => by simp at hi
 | r :: rs, off, F, h, i, row, hi => by
  simp only [Rws] at h
  obtain ⟨G1, G2, h1, h2, h3, rfl⟩ := h
  match i, hi with
  | 0, hi =>
   simp at hi; subst hi
   exact ⟨G1, by simpa using h2, h1, fun x hx => by simp [hx]⟩
  | i + 1, hi =>
   obtain ⟨G, g1, g2, g3⟩ := h3.get (i := i) (by simpa using hi)
   exact ⟨G, by rw [Nat.add_mul, Nat.one_mul, Nat.add_comm (i * k), ← Nat.add_assoc]; exact g1, g2, fun x hx => by simp [g3 x hx]⟩
theorem Ms.drop {o : Bool} {w : World} {b : Nat} : ∀ {ts : List T} {off : Nat} {F : List Nat}, Ms o w b off ts F → ∀ j, ∃ G, Ms o w b (off + j) (ts.drop j) G ∧ ∀ x ∈ G, x ∈ F
 | ts, off, F, h, 0 => ⟨F, by simpa using h, fun _ h => h⟩
 | [], off, F, h, j + 1 => ⟨[], by simp [Ms], fun _ h => by cases h⟩
 | t :: ts, off, F, h, j + 1 => by
  simp only [Ms] at h
  obtain ⟨c, G1, G2, h1, h2, h3, rfl⟩ := h
  obtain ⟨G, g1, g2⟩ := h3.drop j
  exact ⟨G, by rw [List.drop_succ_cons]; simpa [Nat.add_comm, Nat.add_left_comm] using g1, fun x hx => by simp [g2 x hx]⟩
theorem Ms.take {o : Bool} {w : World} {b : Nat} : ∀ {ts : List T} {off : Nat} {F : List Nat}, Ms o w b off ts F → ∀ j, ∃ G, Ms o w b off (ts.take j) G ∧ ∀ x ∈ G, x ∈ F
 | ts, off, F, h, 0 => ⟨[], by simp [Ms], fun _ h => by cases h⟩
 | [], off, F, h, j + 1 => ⟨[], by simp [Ms], fun _ h => by cases h⟩
 | t :: ts, off, F, h, j + 1 => by
  simp only [Ms] at h
  obtain ⟨c, G1, G2, h1, h2, h3, rfl⟩ := h
  obtain ⟨G, g1, g2⟩ := h3.take j
  refine ⟨G1 ++ G, by rw [List.take_succ_cons]; simp only [Ms]; exact ⟨c, G1, G, h1, h2, g1, rfl⟩, fun x hx => ?_⟩
  rcases List.mem_append.1 hx with hx | hx
  · simp [hx]
  · simp [g2 x hx]
theorem Ms.cells {o : Bool} {w : World} {b : Nat} : ∀ {ts : List T} {off : Nat} {F : List Nat}, Ms o w b off ts F → ∃ cs, Cs o w ts cs F ∧ cs.length = ts.length ∧ ∀ (j : Nat) (u : Value), cs[j]? = some u → w.cell? ⟨b, off + j, none⟩ = some u
 | [], off, F, h => ⟨[], by simp only [Ms] at h; simp [Cs, h], rfl, by simp⟩
 | t :: r, off, F, h => by
  simp only [Ms] at h
  obtain ⟨c, G1, G2, h1, h2, h3, rfl⟩ := h
  obtain ⟨cs, g1, g2, g3⟩ := h3.cells
  refine ⟨c :: cs, by simp only [Cs]; exact ⟨c, cs, G1, G2, rfl, h2, g1, rfl⟩, by simp [g2], fun j u hj => ?_⟩
  match j, hj with
  | 0, hj => simp at hj; subst hj; simpa using h1
  | j + 1, hj => have := g3 j u (by simpa using hj); simpa [Nat.add_comm, Nat.add_left_comm] using this
theorem Cs.len {o : Bool} {w : World} : ∀ {ts : List T} {cs : List Value} {F : List Nat}, Cs o w ts cs F → cs.length = ts.length
 | [], _, _, h => by simp only [Cs] at h; obtain ⟨rfl, _⟩ := h; rfl
 | t :: r, _, _, h => by
  simp only [Cs] at h
  obtain ⟨c, cr, G1, G2, rfl, h2, h3, rfl⟩ := h
  simp [h3.len]
theorem Cs.get {o : Bool} {w : World} : ∀ {ts : List T} {cs : List Value} {F : List Nat}, Cs o w ts cs F → ∀ {i : Nat} {t : T}, ts[i]? = some t → ∃ c G, cs[i]? = some c ∧ C o w t c G ∧ ∀ x ∈ G, x ∈ F
 | [], _, _, _, i, t, hi => by simp at hi
 | t' :: r, _, _, h, i, t, hi => by
  simp only [Cs] at h
  obtain ⟨c, cr, G1, G2, rfl, h2, h3, rfl⟩ := h
  match i, hi with
  | 0, hi => simp at hi; subst hi; exact ⟨c, G1, rfl, h2, fun x hx => by simp [hx]⟩
  | i + 1, hi =>
   obtain ⟨c', G, g1, g2, g3⟩ := h3.get (i := i) (by simpa using hi)
   exact ⟨c', G, by simpa using g1, g2, fun x hx => by simp [g3 x hx]⟩
theorem Cs.append {o : Bool} {w : World} : ∀ {xs ys : List T} {cs ds : List Value} {F G : List Nat}, Cs o w xs cs F → Cs o w ys ds G → Cs o w (xs ++ ys) (cs ++ ds) (F ++ G)
 | [], ys, cs, ds, F, G, h, h' => by simp only [Cs] at h; obtain ⟨rfl, rfl⟩ := h; exact h'
 | t :: xs, ys, cs, ds, F, G, h, h' => by
  simp only [Cs, List.cons_append] at h ⊢
  obtain ⟨c, cr, G1, G2, rfl, h2, h3, rfl⟩ := h
  exact ⟨c, cr ++ ds, G1, G2 ++ G, rfl, h2, h3.append h', by simp⟩
theorem Rws.flat {o : Bool} {w : World} {b k : Nat} : ∀ {rs : List (List T)} {off : Nat} {F : List Nat}, Rws o w b k off rs F → (∀ row ∈ rs, row.length = k) ∧ ∃ xs, Cs o w rs.flatten xs F ∧ xs.length = rs.length * k ∧ ∀ (j : Nat) (u : Value), xs[j]? = some u → w.cell? ⟨b, off + j, none⟩ = some u
 | [], off, F, h => by simp only [Rws] at h; subst h; exact ⟨by simp, [], by simp [Cs], by simp, by simp⟩
 | r :: rs, off, F, h => by
  simp only [Rws] at h
  obtain ⟨G1, G2, h1, h2, h3, rfl⟩ := h
  obtain ⟨g1, xs, g2, g3, g4⟩ := h3.flat
  obtain ⟨cs, k1, k2, k3⟩ := h2.cells
  refine ⟨fun row hr => ?_, cs ++ xs, by rw [List.flatten_cons]; exact k1.append g2, by rw [List.length_append, k2, h1, g3, List.length_cons, Nat.add_mul, Nat.one_mul, Nat.add_comm], fun j u hj => ?_⟩
  · rcases List.mem_cons.1 hr with rfl | hr
    · exact h1
    · exact g1 row hr
  · by_cases hl : j < cs.length
    · rw [List.getElem?_append_left hl] at hj; exact k3 j u hj
    · rw [List.getElem?_append_right (by omega)] at hj
      have := g4 _ u hj
      rw [k2, h1] at this hl
      rw [show off + j = off + k + (j - k) by omega]; exact this
theorem Cs.split {o : Bool} {w : World} : ∀ {xs ys : List T} {cs : List Value} {F : List Nat}, Cs o w (xs ++ ys) cs F → ∃ c1 c2 F1 F2, cs = c1 ++ c2 ∧ F = F1 ++ F2 ∧ Cs o w xs c1 F1 ∧ Cs o w ys c2 F2 ∧ c1.length = xs.length
 | [], ys, cs, F, h => ⟨[], cs, [], F, rfl, rfl, by simp [Cs], h, rfl⟩
 | t :: xs, ys, cs, F, h => by
  simp only [Cs, List.cons_append] at h
  obtain ⟨c, cr, G1, G2, rfl, h2, h3, rfl⟩ := h
  obtain ⟨c1, c2, F1, F2, rfl, rfl, h4, h5, h6⟩ := h3.split
  exact ⟨c :: c1, c2, G1 ++ F1, F2, rfl, by simp, by simp only [Cs]; exact ⟨c, c1, G1, F1, rfl, h2, h4, rfl⟩, h5, by simp [h6]⟩
theorem Ms.of {o : Bool} {w : World} {b : Nat} : ∀ {ts : List T} {cs : List Value} {G : List Nat} {off : Nat}, Cs o w ts cs G → (∀ (j : Nat) (u : Value), cs[j]? = some u → w.cell? ⟨b, off + j, none⟩ = some u) → Ms o w b off ts G
 | [], cs, G, off, h, _ => by simp only [Cs] at h; simp only [Ms]; exact h.2
 | t :: r, cs, G, off, h, hc => by
  simp only [Cs] at h
  obtain ⟨c, cr, G1, G2, rfl, h2, h3, rfl⟩ := h
  simp only [Ms]
  exact ⟨c, G1, G2, by simpa using hc 0 c rfl, h2, Ms.of h3 fun j u hj => by have := hc (j + 1) u (by simpa using hj); simpa [Nat.add_comm, Nat.add_left_comm] using this, rfl⟩
theorem Rws.of {o : Bool} {w : World} {b k : Nat} : ∀ {rs : List (List T)} {xs : List Value} {off : Nat} {F : List Nat}, (∀ row ∈ rs, row.length = k) → Cs o w rs.flatten xs F → (∀ (j : Nat) (u : Value), xs[j]? = some u → w.cell? ⟨b, off + j, none⟩ = some u) → Rws o w b k off rs F
 | [], xs, off, F, _, h, _ => by simp only [List.flatten_nil, Cs] at h; simp only [Rws]; exact h.2
 | r :: rs, xs, off, F, hk, h, hc => by
  rw [List.flatten_cons] at h
  obtain ⟨c1, c2, F1, F2, rfl, rfl, h1, h2, h3⟩ := h.split
  have hr := hk r (by simp)
  simp only [Rws]
  refine ⟨F1, F2, hr, Ms.of h1 fun j u hj => hc j u ?_, Rws.of (fun row hm => hk row (by simp [hm])) h2 fun j u hj => ?_, rfl⟩
  · rw [List.getElem?_append_left (List.getElem?_eq_some_iff.1 hj).1]; exact hj
  · have := hc (k + j) u (by rw [List.getElem?_append_right (by omega), show k + j - c1.length = j by omega]; exact hj)
    rw [Nat.add_assoc]; exact this
end Go.Q
