/- Lists of entries: where a handle stands, two entries exchanged. Plain. -/
import Derived.Test.YtepfbhigeghjjaaQ1
namespace Go.Proofs.Ytepfbhigeghjjaa.Q
open Go.RowKit
set_option linter.unusedVariables false
set_option linter.unusedSimpArgs false
section
variable {α : Type}

theorem hidx_some {es : List (En α)} (hn : (es.map (·.h)).Nodup) {k v : Int} : hidx es k = some v ↔ ∃ (m : Nat) (e : En α), es[m]? = some e ∧ e.h = k ∧ v = m := by
  constructor
  · intro h
    unfold hidx at h
    obtain ⟨m, hm, rfl⟩ := Option.map_eq_some_iff.1 h
    obtain ⟨hlt, hp, _⟩ := List.findIdx?_eq_some_iff_getElem.1 hm
    exact ⟨m, es[m], List.getElem?_eq_getElem hlt, by simpa using hp, rfl⟩
  · rintro ⟨m, e, he, rfl, rfl⟩
    obtain ⟨hlt, rfl⟩ := List.getElem?_eq_some_iff.1 he
    unfold hidx
    have : es.findIdx? (fun x => x.h == es[m].h) = some m := by
      rw [List.findIdx?_eq_some_iff_getElem]
      refine ⟨hlt, by simp, fun j hj => ?_⟩
      have hnd := List.nodup_iff_pairwise_ne.1 hn
      rw [List.pairwise_iff_getElem] at hnd
      have := hnd j m (by simp; omega) (by simpa using hlt) hj
      simpa using this
    rw [this]; rfl

theorem hidx_none {es : List (En α)} {k : Int} : hidx es k = none ↔ ∀ e ∈ es, e.h ≠ k := by
  unfold hidx
  rw [Option.map_eq_none_iff, List.findIdx?_eq_none_iff]
  constructor
  · intro h e he
    simpa using h e he
  · intro h e he
    simpa using h e he

theorem hidx_ext {es es' : List (En α)} (h : ∀ k v, hidx es k = some v ↔ hidx es' k = some v) : hidx es = hidx es' := by
  funext k
  apply Option.ext
  intro v
  exact h k v

/-- Two entries exchanged. -/
def swp (es : List (En α)) (i j : Nat) : List (En α) :=
  match es[i]?, es[j]? with
  | some a, some b => (es.set i b).set j a
  | _, _ => es
theorem swp_eq {es : List (En α)} {i j : Nat} {a b : En α} (hi : es[i]? = some a) (hj : es[j]? = some b) : swp es i j = (es.set i b).set j a := by simp [swp, hi, hj]
theorem swp_length (es : List (En α)) (i j : Nat) : (swp es i j).length = es.length := by
  unfold swp; split <;> simp
theorem swp_get {es : List (En α)} {i j : Nat} {a b : En α} (hi : es[i]? = some a) (hj : es[j]? = some b) (m : Nat) :
    (swp es i j)[m]? = if m = j then some a else if m = i then some b else es[m]? := by
  rw [swp_eq hi hj, List.getElem?_set, List.getElem?_set]
  obtain ⟨hi', _⟩ := List.getElem?_eq_some_iff.1 hi
  obtain ⟨hj', _⟩ := List.getElem?_eq_some_iff.1 hj
  by_cases h1 : j = m
  · subst h1; simp [hj']
  · rw [if_neg h1, if_neg (Ne.symm h1)]
    by_cases h2 : i = m
    · subst h2; simp [hi']
    · rw [if_neg h2, if_neg (Ne.symm h2)]
theorem swp_perm {es : List (En α)} {i j : Nat} : (swp es i j).Perm es := by
  unfold swp
  split
  · rename_i a b hi hj
    obtain ⟨hi', rfl⟩ := List.getElem?_eq_some_iff.1 hi
    obtain ⟨hj', rfl⟩ := List.getElem?_eq_some_iff.1 hj
    exact List.set_set_perm hi' hj'
  · exact List.Perm.refl _
theorem swp_nodup {es : List (En α)} {i j : Nat} (hn : (es.map (·.h)).Nodup) : ((swp es i j).map (·.h)).Nodup := (swp_perm.map _).nodup_iff.2 hn
theorem hidx_swp {es : List (En α)} {i j : Nat} {a b : En α} (hn : (es.map (·.h)).Nodup) (hi : es[i]? = some a) (hj : es[j]? = some b) (k : Int) :
    hidx (swp es i j) k = if k = a.h then some (j : Int) else if k = b.h then some (i : Int) else hidx es k := by
  apply Option.ext
  intro v
  rw [hidx_some (swp_nodup hn)]
  have inj : ∀ (m m' : Nat) (e e' : En α), es[m]? = some e → es[m']? = some e' → e.h = e'.h → m = m' := by
    intro m m' e e' h1 h2 h3
    have hm : hidx es e.h = some (m : Int) := (hidx_some hn).2 ⟨m, e, h1, rfl, rfl⟩
    have hm' : hidx es e.h = some (m' : Int) := (hidx_some hn).2 ⟨m', e', h2, h3.symm, rfl⟩
    rw [hm] at hm'
    have := Option.some.inj hm'
    omega
  constructor
  · rintro ⟨m, e, he, rfl, rfl⟩
    rw [swp_get hi hj] at he
    split at he
    · cases he; simp_all
    · split at he
      · rename_i h1 h2
        cases he
        subst h2
        rw [if_neg, if_pos rfl]
        intro e; exact h1 (inj _ _ _ _ hj hi e).symm
      · rename_i h1 h2
        rw [if_neg, if_neg, (hidx_some hn).2 ⟨m, e, he, rfl, rfl⟩]
        · intro h; exact h1 (inj _ _ _ _ he hj h)
        · intro h; exact h2 (inj _ _ _ _ he hi h)
  · intro h
    split at h
    · rename_i h1
      cases h
      exact ⟨j, a, by rw [swp_get hi hj, if_pos rfl], h1.symm, rfl⟩
    · rename_i h1
      split at h
      · rename_i h2
        cases h
        refine ⟨i, b, ?_, h2.symm, rfl⟩
        rw [swp_get hi hj, if_neg, if_pos rfl]
        intro hij; subst hij
        rw [hi] at hj; cases hj; exact h1 h2
      · rename_i h2
        obtain ⟨m, e, he, rfl, rfl⟩ := (hidx_some hn).1 h
        refine ⟨m, e, ?_, rfl, rfl⟩
        rw [swp_get hi hj, if_neg, if_neg]
        · exact he
        · intro hm; subst hm; rw [hi] at he; cases he; exact h1 rfl
        · intro hm; subst hm; rw [hj] at he; cases he; exact h2 rfl
end

/-- A value found in the list. -/
theorem getL_find {l : List (Int × Int × Nat)} {k v : Int} (h : getL l k = some v) : ∃ x, l.find? (·.1 == k) = some x ∧ x ∈ l ∧ x.1 = k ∧ x.2.1 = v := by
  unfold getL at h
  obtain ⟨x, hx, rfl⟩ := Option.map_eq_some_iff.1 h
  exact ⟨x, hx, List.mem_of_find?_eq_some hx, by simpa using List.find?_some hx, rfl⟩
/-- A queue is kept by what touches none of its blocks. -/
theorem IsQ.eff {α : Type} [Cells α] {tq te : TypeId} {lv : Value} {B : Nat} {W W' : World} {g mb : Nat} {hv : Value} {es : List (En α)} {nx ck : Int} {S : Nat → Prop} (h : IsQ tq te lv B W g hv mb es nx ck) (he : Eff S W W') (hn : ∀ k, own g hv mb k → ¬ S k) : IsQ tq te lv B W' g hv mb es nx ck :=
  ⟨he.heap h.blk (hn g (.inl rfl)), h.gB, h.mB, Row.eff h.row he (fun k hk => hn k (.inr (.inl hk.symm))), h.map.eff he (hn mb (.inr (.inr rfl))), h.nd⟩

theorem Row.slice {α : Type} [Cells α] {te : TypeId} {B : Nat} {W : World} {hv : Value} {es : List (En α)} (h : Row te B W hv es) : ∃ A cap, hv = .slice A es.length cap := by
  rcases h.2 with ⟨rfl, h0⟩ | ⟨b, cap, cur, rfl, _⟩
  · exact ⟨none, 0, by rw [h0]⟩
  · exact ⟨_, cap, rfl⟩
theorem blk_cell1 {W : World} {g : Nat} {a b c d e : Value} {t : TypeId} (h : W.heap[g]? = some (.cells #[a, b, c, d, e] t (0, 0))) : W.cell? ⟨g, 1, none⟩ = some b := by simp [World.cell?, h]

/-! ### Boxes -/
theorem below_heap {w W : World} (h : Below w.heap.size w W) {k : Nat} {o : Obj} (hk : w.heap[k]? = some o) : W.heap[k]? = some o := (h.block k (Array.getElem?_eq_some_iff.1 hk).1).trans hk
theorem rangeAt_eff {S : Nat → Prop} {W W' : World} {b o : Nat} {cs : List Value} (h : W.rangeAt b o cs) (he : Eff S W W') (hn : ¬ S b) : W'.rangeAt b o cs := fun j v hv => he.cell (h j v hv) hn
theorem eff_alloc (W : World) (o : Obj) : Eff (fun _ => False) W (W.alloc o) := (Eff.refl _ W).alloc o
/-- Two blocks laid, one behind the other. -/
theorem two_alloc (W : World) (o p : Obj) : ((W.alloc o).alloc p).heap[W.heap.size]? = some o ∧ ((W.alloc o).alloc p).heap[W.heap.size + 1]? = some p := by
  have h1 := heap_alloc_new W o
  have h2 := heap_alloc_new (W.alloc o) p
  have h3 : (W.alloc o).heap.size = W.heap.size + 1 := by simp
  refine ⟨(eff_alloc (W.alloc o) p).heap h1 (fun h => h), ?_⟩
  rw [h3] at h2
  exact h2
theorem setAt_all (vs L : List Value) (h : L.length = vs.length) : setAt L 0 vs = vs := by
  apply List.ext_getElem?
  intro m
  rw [setAt_get _ _ _ _ (by omega)]
  split
  · simp
  · rw [List.getElem?_eq_none (by omega), List.getElem?_eq_none (by omega)]
theorem box_set {W : World} {b : Nat} {t : TypeId} {cur : Array Value} {vs : List Value} (h : W.heap[b]? = some (.cells cur t (0, 0))) (hl : cur.size = vs.length) : (W.setCells b 0 vs).heap[b]? = some (.cells vs.toArray t (0, 0)) := by
  obtain ⟨cur', h1, h2⟩ := blk_setCells b t vs 0 W cur h
  rw [setAt_all _ _ (by simpa using hl)] at h2
  rw [h1, ← h2]
theorem box_there {W : World} {b : Nat} {t : TypeId} {cur : Array Value} (h : W.heap[b]? = some (.cells cur t (0, 0))) {n : Nat} (hl : cur.size = n) : W.there b 0 n := by
  intro j hj
  constructor
  · simp [World.cell?, h, show j < cur.size by omega]
  · simp [World.frozen?, h]
theorem box_range {W : World} {b : Nat} {t : TypeId} {L : List Value} (h : W.heap[b]? = some (.cells L.toArray t (0, 0))) (o : Nat) (vs : List Value) (hv : ∀ j v, vs[j]? = some v → L[o + j]? = some v) : W.rangeAt b o vs := by
  intro j v hj
  simpa [World.cell?, h] using hv j v hj
theorem box_cell {W : World} {b : Nat} {t : TypeId} {L : List Value} (h : W.heap[b]? = some (.cells L.toArray t (0, 0))) (o : Nat) (v : Value) (hv : L[o]? = some v) : W.cell? ⟨b, o, none⟩ = some v := by
  simpa [World.cell?, h] using hv
theorem enc_x {α : Type} [Cells α] (e : En α) : ∀ j v, (Cells.cs e.x)[j]? = some v → (enc e)[0 + j]? = some v := by
  intro j v hv
  have hj := (List.getElem?_eq_some_iff.1 hv).1
  rw [Nat.zero_add, enc, List.getElem?_append_left hj]
  exact hv
/-- What elements are ordered by: two numbers. -/
class Lt (α : Type) where
  k1 : α → Int
  k2 : α → Int
def Lt.lt {α : Type} [Lt α] (x y : α) : Bool := decide (Lt.k1 x < Lt.k1 y ∨ Lt.k1 x = Lt.k1 y ∧ Lt.k2 x < Lt.k2 y)
/-- Entry a leaves before entry b. -/
def bef {α : Type} [Lt α] (a b : En α) : Bool := Lt.lt a.x b.x || (!Lt.lt b.x a.x && decide (a.t < b.t))
theorem bef_iff {α : Type} [Lt α] {a b : En α} : bef a b = true ↔ Lt.k1 a.x < Lt.k1 b.x ∨ Lt.k1 a.x = Lt.k1 b.x ∧ (Lt.k2 a.x < Lt.k2 b.x ∨ Lt.k2 a.x = Lt.k2 b.x ∧ a.t < b.t) := by
  simp only [bef, Lt.lt, Bool.or_eq_true, Bool.and_eq_true, Bool.not_eq_true', decide_eq_true_eq, decide_eq_false_iff_not]
  omega
theorem nbef_iff {α : Type} [Lt α] {a b : En α} : bef a b = false ↔ ¬ (Lt.k1 a.x < Lt.k1 b.x ∨ Lt.k1 a.x = Lt.k1 b.x ∧ (Lt.k2 a.x < Lt.k2 b.x ∨ Lt.k2 a.x = Lt.k2 b.x ∧ a.t < b.t)) := by
  rw [← bef_iff, Bool.not_eq_true]

/-- Behind a store at an entry each key is still found. -/
theorem keep_find {W : World} {mb : Nat} {l : List (Int × Int × Nat)} {clk : Nat} {s : Nat} {v k : Int} (h : MapL W mb (l.map fun y => if y.2.2 = s then (y.1, v, y.2.2) else y) clk)
    (hx : ∃ x, l.find? (·.1 == k) = some x ∧ x ∈ l ∧ x.1 = k) :
    ∃ x, (l.map fun y => if y.2.2 = s then (y.1, v, y.2.2) else y).find? (·.1 == k) = some x ∧ x ∈ (l.map fun y => if y.2.2 = s then (y.1, v, y.2.2) else y) ∧ x.1 = k := by
  obtain ⟨x, h1, h2, h3⟩ := hx
  have e : (l.map fun y => if y.2.2 = s then (y.1, v, y.2.2) else y).find? (·.1 == k) = (l.find? (·.1 == k)).map fun y => if y.2.2 = s then (y.1, v, y.2.2) else y := by
    rw [List.find?_map]
    congr 2
    funext y
    simp only [Function.comp]
    split <;> rfl
  rw [h1] at e
  refine ⟨_, e, List.mem_of_find?_eq_some e, ?_⟩
  have := List.find?_some e
  simpa using this
end Go.Proofs.Ytepfbhigeghjjaa.Q
