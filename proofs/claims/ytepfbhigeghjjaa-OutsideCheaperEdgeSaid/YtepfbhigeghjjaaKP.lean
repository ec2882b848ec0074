/- Slices whose elements lie in several cells each: appended to, set, copied. -/
import Derived.Test.YtepfbhigeghjjaaKT
namespace Go.Proofs.Ytepfbhigeghjjaa.Q
open Go.RowKit Go.Proofs.YtepfbhigeghjjaaW.PrintLast
set_option linter.unusedVariables false
set_option linter.unusedSimpArgs false
section
variable {α : Type} {enc : α → List Value} {s : Nat}
theorem fl_len (hs : ∀ y, (enc y).length = s) (l : List α) : (l.flatMap enc).length = l.length * s := by
  induction l with
  | nil => simp
  | cons y l ih => rw [List.flatMap_cons, List.length_append, ih, hs, List.length_cons, Nat.add_mul]; omega
theorem fl_get (hs : ∀ y, (enc y).length = s) (l : List α) (j : Nat) (y : α) (hy : l[j]? = some y) (k : Nat) (u : Value) (hu : (enc y)[k]? = some u) : (l.flatMap enc)[j * s + k]? = some u := by
  induction l generalizing j with
  | nil => simp at hy
  | cons z l ih =>
    have hk : k < s := by rw [← hs y]; exact (List.getElem?_eq_some_iff.1 hu).1
    cases j with
    | zero =>
      cases hy
      rw [List.flatMap_cons, List.getElem?_append_left (by rw [hs]; omega), Nat.zero_mul, Nat.zero_add]
      exact hu
    | succ j =>
      simp only [List.getElem?_cons_succ] at hy
      rw [List.flatMap_cons, List.getElem?_append_right (by rw [hs, Nat.add_mul]; omega), hs, show (j + 1) * s + k - s = j * s + k by rw [Nat.add_mul]; omega]
      exact ih j hy
theorem fl_inv (hs : ∀ y, (enc y).length = s) (h0 : 0 < s) (l : List α) (j : Nat) (u : Value) (hu : (l.flatMap enc)[j]? = some u) : ∃ y, l[j / s]? = some y ∧ (enc y)[j % s]? = some u := by
  induction l generalizing j with
  | nil => simp at hu
  | cons z l ih =>
    rw [List.flatMap_cons] at hu
    by_cases hj : j < s
    · rw [List.getElem?_append_left (by rw [hs]; omega)] at hu
      exact ⟨z, by rw [Nat.div_eq_of_lt hj]; rfl, by rw [Nat.mod_eq_of_lt hj]; exact hu⟩
    · rw [List.getElem?_append_right (by rw [hs]; omega), hs] at hu
      obtain ⟨y, h1, h2⟩ := ih (j - s) hu
      refine ⟨y, ?_, ?_⟩
      · rw [Nat.div_eq j s, if_pos ⟨h0, by omega⟩, List.getElem?_cons_succ]
        exact h1
      · rw [Nat.mod_eq_sub_mod (by omega)]
        exact h2
/-- A slice of such elements that is only read. -/
def RowIn (W : World) (A : Option Addr) (s : Nat) (enc : α → List Value) (l : List α) : Prop := ∀ (j : Nat) y, l[j]? = some y → ∃ b o, A = some ⟨b, o, none⟩ ∧ W.rangeAt b (o + j * s) (enc y)
theorem RowIn.below {w W : World} {A : Option Addr} {l : List α} (h : RowIn w A s enc l) (hb : Below w.heap.size w W) : RowIn W A s enc l := fun j y hy => by
  obtain ⟨b, o, e, hr⟩ := h j y hy
  exact ⟨b, o, e, fun k v hv => (hb.cell (World.block_lt_of_cell? w _ (hr k v hv))).trans (hr k v hv)⟩
/-- Slice type st over elements et, of s cells and b bytes each. -/
structure Kind (st et : TypeId) (s b : Nat) (enc : α → List Value) : Prop where
  und : Try.prog.underlying st = some (.slice et)
  info : ∃ i0 z, Try.prog.info? et = some i0 ∧ i0.zero = some z ∧ i0.size = s ∧ i0.bytes = b ∧ z.cells.size = s
  len : ∀ y, (enc y).length = s
  one : ∀ y, ∀ u ∈ enc y, u.oneCell' = true
  pos : 0 < s
  small : b ≤ 1000
def Own (W : World) (B : Nat) (et : TypeId) (s : Nat) (A : Option Addr) (c : Nat) (enc : α → List Value) (l : List α) : Prop := W.ownsRow B et s (.slice A l.length c) l.length (l.flatMap enc)
theorem Own.row {W : World} {B : Nat} {st et : TypeId} {b : Nat} {A : Option Addr} {c : Nat} {l : List α} (K : Kind st et s b enc) (h : Own W B et s A c enc l) : RowIn W A s enc l := fun j y hy => by
  have hj := (List.getElem?_eq_some_iff.1 hy).1
  rcases h.2 with ⟨e, h0⟩ | ⟨g, cap, cur, e, _⟩
  · omega
  · cases e
    refine ⟨g, 0, rfl, fun k u hu => ?_⟩
    have hk : k < s := by rw [← K.len y]; exact (List.getElem?_eq_some_iff.1 hu).1
    rw [Nat.zero_add, World.ownsRow.cellAt h _ (by have := Nat.mul_le_mul_right s (show j + 1 ≤ l.length by omega); rw [Nat.add_mul] at this; omega)]
    exact fl_get K.len l j y hy k u hu
theorem Own.at_ {W : World} {B : Nat} {st et : TypeId} {b : Nat} {A : Option Addr} {c : Nat} {l : List α} (K : Kind st et s b enc) (h : Own W B et s A c enc l) (hl : 0 < l.length) : ∃ g, A = some ⟨g, 0, none⟩ ∧ B ≤ g ∧ g < W.heap.size ∧ (∀ o, W.frozen? ⟨g, o, none⟩ = false) ∧ ∀ j y, l[j]? = some y → W.rangeAt g (j * s) (enc y) := by
  rcases h.2 with ⟨e, h0⟩ | ⟨g, cap, cur, e, hb, hh, _⟩
  · omega
  · cases e
    refine ⟨g, rfl, hb, (Array.getElem?_eq_some_iff.1 hh).1, fun o => World.ownsRow.frozenAt h o, fun j y hy => ?_⟩
    obtain ⟨b', o, e, hr⟩ := h.row K j y hy
    cases e
    rwa [Nat.zero_add] at hr
theorem Own.eff {S : Nat → Prop} {W W' : World} {B : Nat} {et : TypeId} {A : Option Addr} {c : Nat} {l : List α} (h : Own W B et s A c enc l) (he : Eff S W W') (hn : ∀ k, B ≤ k → k < W.heap.size → A = some ⟨k, 0, none⟩ → ¬ S k) : Own W' B et s A c enc l := by
  refine ⟨h.1, h.2.imp id ?_⟩
  rintro ⟨g, cap, cur, e, hb, hh, h1⟩
  cases e
  exact ⟨g, _, cur, rfl, hb, he.heap hh (hn g hb (Array.getElem?_eq_some_iff.1 hh).1 rfl), h1⟩
theorem Own.bel {W W' : World} {B : Nat} {et : TypeId} {A : Option Addr} {c : Nat} {l : List α} (h : Own W B et s A c enc l) (hb : Below W.heap.size W W') : Own W' B et s A c enc l := h.eff (Eff.of_below hb (fun _ => False)) (fun _ _ _ _ h => h)
theorem Own.nil (W : World) (B : Nat) (et : TypeId) : Own W B et s none 0 enc ([] : List α) := ⟨by simp, .inl ⟨rfl, rfl⟩⟩
/-- A literal: a new block of the elements. -/
theorem Own.lit {st et : TypeId} {b : Nat} (K : Kind st et s b enc) (W : World) (B : Nat) (hB : B ≤ W.heap.size) (l : List α) (hl : l.length ≤ 1000) : Own (W.alloc (.cells (l.flatMap enc).toArray et)) B et s (some ⟨W.heap.size, 0, none⟩) l.length enc l :=
  ⟨fl_len K.len l, .inr ⟨W.heap.size, l.length, (l.flatMap enc).toArray, rfl, hB, heap_alloc_new W _, Nat.le_refl _, by simp only [maxLen]; omega, by rw [List.size_toArray, fl_len K.len], by rw [List.take_of_length_le (by rw [fl_len K.len]; exact Nat.le_refl _)]⟩⟩
/-- dst = append(dst, src...), src not empty. -/
theorem append_row {st et : TypeId} {b : Nat} (K : Kind st et s b enc) {W : World} {B : Nat} {A A2 : Option Addr} {c c2 : Nat} {l l2 : List α} (h : Own W B et s A c enc l) (hB : B ≤ W.heap.size) (h2 : RowIn W A2 s enc l2) (hne : 0 < l2.length) (hl : l.length + l2.length ≤ 1000000) :
    ∃ A' c' W', (Builtin.append_ #[st, st] st #[.slice A l.length c, .slice A2 l2.length c2]).run Try.prog W = .ok (.slice A' (l.length + l2.length) c') W' ∧
      Own W' B et s A' c' enc (l ++ l2) ∧ Below B W W' ∧ Eff (fun k => A = some ⟨k, 0, none⟩) W W' ∧ (A' = A ∨ A' = some ⟨W.heap.size, 0, none⟩) := by
  obtain ⟨i0, z, hi0, hz0, hz1, hz2, hz3⟩ := K.info
  obtain ⟨y0, hy0⟩ : ∃ y, l2[0]? = some y := ⟨_, List.getElem?_eq_getElem hne⟩
  obtain ⟨sb, so, rfl, _⟩ := h2 0 y0 hy0
  have hp := K.pos
  have hsm := K.small
  obtain ⟨v1, w3, hr3, ho3, hg3, _, hb3⟩ := run_append_own_at (P := Try.prog) W B st st et i0 z s b K.und hi0 hz0 hz1 hz2 hz3 K.pos _ l.length (l.flatMap enc) h
    ⟨sb, so, none⟩ l2.length c2 (l2.flatMap enc) (fl_len K.len l2) (fun j u hu => by
      obtain ⟨y, h3, h4⟩ := fl_inv K.len K.pos l2 j u hu
      obtain ⟨b', o', e, hr⟩ := h2 _ y h3
      cases e
      have := hr _ u h4
      rw [Addr.add_mid]
      rwa [Nat.add_assoc, Nat.mul_comm, Nat.div_add_mod] at this) (fun u hu => by
      obtain ⟨y, _, h4⟩ := List.mem_flatMap.1 hu
      exact K.one y u h4) (by simp only [maxLen]; omega) (by have := Nat.mul_le_mul hl hsm; omega) hB
  obtain ⟨A', c', hv⟩ := own_slice ho3
  subst hv
  have hoe : ∀ k, (Value.slice A l.length c).ownBlock = some k → A = some ⟨k, 0, none⟩ := by
    intro k hk
    rcases h.2 with ⟨e, _⟩ | ⟨g, cap, cur, e, _⟩
    · rw [e] at hk; cases hk
    · cases e
      cases hk
      rfl
  refine ⟨A', c', w3, hr3, ?_, (Eff.of_grown hg3).belowB hB (fun k hk => (World.ownsRow.lt h k hk.symm).1), ?_, ?_⟩
  · unfold Own
    rw [List.length_append, List.flatMap_append]
    exact ho3
  · have he := Eff.of_grown hg3
    exact he.mono (fun i hi => .inl (hoe i hi.symm))
  · rcases ho3.2 with ⟨e, h0⟩ | ⟨g, cap, cur, e, _⟩
    · omega
    · cases e
      rcases hb3 with hb3 | hb3
      · exact .inl (hoe g hb3.symm).symm
      · right
        cases hb3
        rfl
/-- The same onto a slice that is new: whatever lay there before stays. -/
theorem append_new {st et : TypeId} {b : Nat} (K : Kind st et s b enc) {W : World} {A2 : Option Addr} {c2 : Nat} (l : List α) {l2 : List α} (h2 : RowIn W A2 s enc l2) (hne : 0 < l2.length) (hl : l.length + l2.length ≤ 1000) :
    ∃ A' c' W', (Builtin.append_ #[st, st] st #[.slice (some ⟨W.heap.size, 0, none⟩) l.length l.length, .slice A2 l2.length c2]).run Try.prog (W.alloc (.cells (l.flatMap enc).toArray et)) = .ok (.slice A' (l.length + l2.length) c') W' ∧
      Own W' W.heap.size et s A' c' enc (l ++ l2) ∧ Below W.heap.size W W' := by
  obtain ⟨A', c', W', h1, h3, h4, _, _⟩ := append_row (c2 := c2) K (Own.lit K W W.heap.size (Nat.le_refl _) l (by omega)) (by simp) (h2.below ((Below.refl _ _).alloc (Nat.le_refl _) _)) hne (by omega)
  exact ⟨A', c', W', h1, h3, ((Below.refl _ _).alloc (Nat.le_refl _) _).trans h4⟩
end
theorem flatV_set : ∀ (l : List K.V) (i : Nat) (a b : Int), i < l.length → ((l.flatMap encV).set (i * 2) (.int .i64 a)).set (i * 2 + 1) (.int .i64 b) = (l.set i (a, b)).flatMap encV
  | [], i, a, b, h => by simp at h
  | y :: l, 0, a, b, h => rfl
  | y :: l, i + 1, a, b, h => by
    have := flatV_set l i a b (by simpa using h)
    rw [List.set_cons_succ, List.flatMap_cons, List.flatMap_cons, ← this]
    show ((_ :: _ :: _ : List Value).set ((i + 1) * 2) _).set ((i + 1) * 2 + 1) _ = _
    rw [show (i + 1) * 2 = i * 2 + 1 + 1 by omega, List.set_cons_succ, List.set_cons_succ, List.set_cons_succ, List.set_cons_succ]
    rfl
theorem kindV : Kind 62 54 2 16 encV := by
  obtain ⟨i0, h1, h2, h3, h4⟩ := info54
  exact ⟨Try.underlying62, ⟨i0, _, h1, h2, h3, h4, rfl⟩, fun _ => rfl, fun y u hu => by simp [encV] at hu; rcases hu with rfl | rfl <;> rfl, by decide, by decide⟩
theorem info60 : ∃ i0 z, Try.prog.info? 60 = some i0 ∧ i0.zero = some z ∧ i0.size = 5 ∧ i0.bytes = 56 ∧ z.cells.size = 5 := by
  obtain ⟨i0, h1, h2, h3, h4⟩ := info_parts (show (Try.prog.info? 60).map (fun i => (i.zero, i.size, i.bytes)) = some (some (.agg #[.int .i64 0, .slice none 0 0, .int .i64 0, .int .i64 0, .int .i64 0]), 5, 56) from by kernel_rfl)
  exact ⟨i0, _, h1, h2, h3, h4, rfl⟩
theorem kindE : Kind 46 60 5 56 encE :=
  ⟨Try.underlying46, info60, fun _ => rfl, fun y u hu => by simp [encE] at hu; rcases hu with rfl | rfl | rfl | rfl | rfl <;> rfl, by decide, by decide⟩
theorem info3 : ∃ i0 z, Try.prog.info? 3 = some i0 ∧ i0.zero = some z ∧ i0.size = 1 ∧ i0.bytes = 8 ∧ z.cells.size = 1 := by
  obtain ⟨i0, h1, h2, h3, h4⟩ := info_parts (show (Try.prog.info? 3).map (fun i => (i.zero, i.size, i.bytes)) = some (some (.int .i64 0), 1, 8) from by kernel_rfl)
  exact ⟨i0, _, h1, h2, h3, h4, rfl⟩
def encI (t : Int) : List Value := [.int .i64 t]
theorem kindI : Kind 22 3 1 8 encI :=
  ⟨Try.underlying22, info3, fun _ => rfl, fun y u hu => by simp [encI] at hu; subst hu; rfl, by decide, by decide⟩
theorem RowIn.ints {W : World} {A : Option Addr} {l : List Int} (h : RowIn W A 1 encI l) : IntsIn W A l := fun j t ht => by
  obtain ⟨b, o, e, hr⟩ := h j t ht
  refine ⟨b, o, e, ?_⟩
  have := hr 0 _ rfl
  rwa [Nat.mul_one, Nat.add_zero] at this
theorem wpL_g {P : Program} {ops : Array Oper} {Q : Exit → Act → World → Prop} {rest : List Oper} {o : Oper} {a : Act} {w w1 : World} {v : Value} (N : Option Tmp) (hw : Region.wanted o (yielded ops a.tmps) = true) (hd : o.dst = N) (hrun : (execOp a.eval o).run P w = .ok (.value v) w1) (h : wpList P ops Q rest (a.put N v) w1) : wpList P ops Q (o :: rest) a w := by
  refine wpList_step fun K hK => ?_
  rw [if_pos hw]
  unfold Oper.wp
  rw [hrun]
  show K (a.put o.dst v) w1
  rw [hd]
  exact hK _ _ h
end Go.Proofs.Ytepfbhigeghjjaa.Q
