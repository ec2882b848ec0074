/- Hypergraphs, the values of hyperedges, least values: the plain law. No program is named. -/
import Derived.RowKit
namespace Go.Proofs.Ytepfbhigeghjjaa.K
set_option linter.unusedVariables false
set_option linter.unusedSimpArgs false
/-- What cannot be derived costs this. -/
abbrev INF : Int := 1099511627776
abbrev V := Int × Int
structure Ed where
  head : Nat
  tails : List Nat
  cost : Int
/-- Less. -/
def ltV (a b : V) : Prop := a.1 < b.1 ∨ a.1 = b.1 ∧ a.2 < b.2
instance (a b : V) : Decidable (ltV a b) := by unfold ltV; infer_instance
def leV (a b : V) : Prop := ¬ ltV b a
def OkV (a : V) : Prop := 0 ≤ a.1 ∧ a.1 ≤ INF ∧ 0 ≤ a.2 ∧ a.2 ≤ INF
def stepV (a v : V) : V := (min (a.1 + v.1) INF, min (a.2 + v.2) INF)
def endV (a : V) : V := if INF ≤ a.1 then (INF, 0) else a
def combV (cost : Int) (l : List V) : V := endV (l.foldl stepV (cost, 1))
def comb (e : Ed) (v : Nat → V) : V := combV e.cost (e.tails.map v)
theorem leV_iff {a b : V} : leV a b ↔ a.1 < b.1 ∨ a.1 = b.1 ∧ a.2 ≤ b.2 := by unfold leV ltV; omega
theorem leV_refl (a : V) : leV a a := by rw [leV_iff]; omega
theorem leV_trans {a b c : V} (h : leV a b) (k : leV b c) : leV a c := by rw [leV_iff] at *; omega
theorem leV_antisymm {a b : V} (h : leV a b) (k : leV b a) : a = b := by
  rw [leV_iff] at *
  exact Prod.ext (by omega) (by omega)
theorem leV_of_lt {a b : V} (h : ltV a b) : leV a b := by unfold leV ltV at *; omega
theorem lt_of_leV_ne {a b : V} (h : leV a b) (k : a ≠ b) : ltV a b := by
  rw [leV_iff] at h
  unfold ltV
  rcases h with h | ⟨h1, h2⟩
  · exact .inl h
  · refine .inr ⟨h1, ?_⟩
    rcases Int.lt_or_eq_of_le h2 with h3 | h3
    · exact h3
    · exact absurd (Prod.ext h1 h3) k
theorem leV_total (a b : V) : leV a b ∨ leV b a := by unfold leV ltV; omega
theorem lt_of_lt_of_le {a b c : V} (h : ltV a b) (k : leV b c) : ltV a c := by rw [leV_iff] at k; unfold ltV at *; omega
theorem lt_of_le_of_lt {a b c : V} (h : leV a b) (k : ltV b c) : ltV a c := by rw [leV_iff] at h; unfold ltV at *; omega
theorem ltV_irrefl (a : V) : ¬ ltV a a := by unfold ltV; omega
/-- The fold's relation. -/
def RelV (a b : V) : Prop := a.1 ≤ INF ∧ b.1 ≤ INF ∧ (a.1 < b.1 ∨ (a.1 = INF ∧ b.1 = INF) ∨ a.1 = b.1 ∧ a.2 ≤ b.2)
theorem rel_step {a b v w : V} (h : RelV a b) (hv : 0 ≤ v.1) (hw : 0 ≤ w.1) (k : leV v w) : RelV (stepV a v) (stepV b w) := by
  rw [leV_iff] at k
  unfold RelV stepV at *
  simp only
  omega
theorem rel_fold : ∀ (l m : List V) (a b : V), RelV a b → l.length = m.length → (∀ x ∈ l, OkV x) → (∀ x ∈ m, OkV x) → (∀ (i : Nat) x y, l[i]? = some x → m[i]? = some y → leV x y) → RelV (l.foldl stepV a) (m.foldl stepV b)
  | [], [], _, _, h, _, _, _, _ => h
  | [], _ :: _, _, _, _, h, _, _, _ => by simp at h
  | _ :: _, [], _, _, _, h, _, _, _ => by simp at h
  | x :: l, y :: m, a, b, h, hl, h1, h2, h3 => by
    simp only [List.foldl_cons]
    exact rel_fold l m _ _ (rel_step h (h1 x (by simp)).1 (h2 y (by simp)).1 (h3 0 x y rfl rfl)) (by simpa using hl) (fun z hz => h1 z (by simp [hz])) (fun z hz => h2 z (by simp [hz])) (fun i z z' hz hz' => h3 (i + 1) z z' hz hz')
theorem rel_end {a b : V} (h : RelV a b) : leV (endV a) (endV b) := by
  unfold RelV at h
  unfold endV
  by_cases h1 : INF ≤ a.1
  · rw [if_pos h1, if_pos (by omega)]
    exact leV_refl _
  · rw [if_neg h1]
    rw [leV_iff]
    by_cases h2 : INF ≤ b.1
    · rw [if_pos h2]
      exact .inl (Int.not_le.1 h1)
    · rw [if_neg h2]
      omega
theorem combV_mono {cost : Int} {l m : List V} (hc : cost ≤ INF) (hl : l.length = m.length) (h1 : ∀ x ∈ l, OkV x) (h2 : ∀ x ∈ m, OkV x) (h : ∀ (i : Nat) x y, l[i]? = some x → m[i]? = some y → leV x y) : leV (combV cost l) (combV cost m) :=
  rel_end (rel_fold l m _ _ ⟨hc, hc, .inr (.inr ⟨rfl, Int.le_refl _⟩)⟩ hl h1 h2 h)
theorem fold_ok : ∀ (l : List V) (a : V), 0 ≤ a.1 → a.1 ≤ INF → 1 ≤ a.2 → a.2 ≤ INF → (∀ x ∈ l, OkV x) → OkV (l.foldl stepV a) ∧ a.1 ≤ (l.foldl stepV a).1 ∧ a.2 ≤ (l.foldl stepV a).2
  | [], a, h1, h2, h3, h4, _ => ⟨⟨h1, h2, Int.le_trans (by decide) h3, h4⟩, Int.le_refl _, Int.le_refl _⟩
  | x :: l, a, h1, h2, h3, h4, h => by
    have hI : INF = 1099511627776 := rfl
    have hx := h x (by simp)
    unfold OkV at hx
    have hs : 0 ≤ (stepV a x).1 ∧ (stepV a x).1 ≤ INF ∧ 1 ≤ (stepV a x).2 ∧ (stepV a x).2 ≤ INF ∧ a.1 ≤ (stepV a x).1 ∧ a.2 ≤ (stepV a x).2 := by
      unfold stepV
      simp only
      omega
    obtain ⟨k1, k2, k3⟩ := fold_ok l (stepV a x) hs.1 hs.2.1 hs.2.2.1 hs.2.2.2.1 (fun z hz => h z (by simp [hz]))
    exact ⟨k1, Int.le_trans hs.2.2.2.2.1 k2, Int.le_trans hs.2.2.2.2.2 k3⟩
theorem combV_ok {cost : Int} {l : List V} (h0 : 0 ≤ cost) (hc : cost ≤ INF) (h : ∀ x ∈ l, OkV x) : OkV (combV cost l) := by
  have := (fold_ok l (cost, 1) h0 hc (Int.le_refl 1) (show (1 : Int) ≤ INF by decide) h).1
  unfold combV endV
  split
  · unfold OkV; decide
  · exact this
/-- Where the end is finite every part is, and none is greater. -/
theorem fold_super : ∀ (l : List V) (a : V), 0 ≤ a.1 → a.1 ≤ INF → 1 ≤ a.2 → a.2 ≤ INF → (∀ x ∈ l, OkV x) → (l.foldl stepV a).1 < INF → ∀ x ∈ l, x.1 < INF ∧ (x.1 < (l.foldl stepV a).1 ∨ x.1 = (l.foldl stepV a).1 ∧ (x.2 < (l.foldl stepV a).2 ∨ (l.foldl stepV a).2 = INF))
  | [], _, _, _, _, _, _, _, _, hx => by simp at hx
  | y :: l, a, h1, h2, h3, h4, h, hf, x, hx => by
    have hy := h y (by simp)
    unfold OkV at hy
    have hs : 0 ≤ (stepV a y).1 ∧ (stepV a y).1 ≤ INF ∧ 1 ≤ (stepV a y).2 ∧ (stepV a y).2 ≤ INF := by
      unfold stepV
      simp only
      omega
    rw [List.foldl_cons] at hf ⊢
    have hl := fold_ok l (stepV a y) hs.1 hs.2.1 hs.2.2.1 hs.2.2.2 (fun z hz => h z (by simp [hz]))
    rcases List.mem_cons.1 hx with rfl | hx
    · obtain ⟨k1, k2, k3⟩ := hl
      unfold OkV at k1
      have h6 : (stepV a x).1 = min (a.1 + x.1) INF := rfl
      have : (stepV a x).1 = a.1 + x.1 := by omega
      have h5 : (stepV a x).2 = min (a.2 + x.2) INF := rfl
      refine ⟨by omega, ?_⟩
      omega
    · exact fold_super l (stepV a y) hs.1 hs.2.1 hs.2.2.1 hs.2.2.2 (fun z hz => h z (by simp [hz])) hf x hx
theorem combV_super {cost : Int} {l : List V} (h0 : 0 ≤ cost) (hc : cost ≤ INF) (h : ∀ x ∈ l, OkV x) (hf : (combV cost l).1 < INF) : ∀ x ∈ l, x.1 < INF ∧ leV x (combV cost l) ∧ ((combV cost l).2 < INF → ltV x (combV cost l)) := by
  unfold combV endV at hf ⊢
  split at hf
  · exact absurd hf (by decide)
  rename_i hn
  rw [if_neg hn]
  intro x hx
  obtain ⟨k1, k2⟩ := fold_super l (cost, 1) h0 hc (Int.le_refl 1) (show (1 : Int) ≤ INF by decide) h hf x hx
  have hx' := h x hx
  unfold OkV at hx'
  refine ⟨k1, ?_, ?_⟩
  · rw [leV_iff]; omega
  · intro h5; unfold ltV; omega
theorem combV_inf {cost : Int} {l : List V} (h0 : 0 ≤ cost) (hc : cost ≤ INF) (h : ∀ x ∈ l, OkV x) (hf : ¬ (combV cost l).1 < INF) : combV cost l = (INF, 0) := by
  unfold combV endV at hf ⊢
  split
  · rfl
  · rename_i hn
    rw [if_neg hn] at hf
    omega
/-! ### Least values -/
def OkE (n : Nat) (e : Ed) : Prop := e.head < n ∧ (∀ t ∈ e.tails, t < n) ∧ 0 ≤ e.cost ∧ e.cost ≤ INF
/-- y is the value of a derivation of i. -/
inductive Der (E : List Ed) : Nat → V → Prop
  | mk (e : Ed) (he : e ∈ E) (f : Nat → V) (h : ∀ t ∈ e.tails, Der E t (f t)) : Der E e.head (combV e.cost (e.tails.map f))
structure Fix (E : List Ed) (n : Nat) (v : Nat → V) : Prop where
  ok : ∀ i, i < n → OkV (v i)
  le : ∀ e ∈ E, leV (v e.head) (comb e v)
  der : ∀ i, i < n → (v i).1 < INF → Der E i (v i)
  inf : ∀ i, i < n → ¬ (v i).1 < INF → v i = (INF, 0)
theorem map_ok {n : Nat} {e : Ed} (he : OkE n e) {v : Nat → V} (h : ∀ i, i < n → OkV (v i)) : ∀ x ∈ e.tails.map v, OkV x := by
  intro x hx
  obtain ⟨t, ht, rfl⟩ := List.mem_map.1 hx
  exact h t (he.2.1 t ht)
theorem comb_ok {n : Nat} {e : Ed} (he : OkE n e) {v : Nat → V} (h : ∀ i, i < n → OkV (v i)) : OkV (comb e v) := combV_ok he.2.2.1 he.2.2.2 (map_ok he h)
theorem comb_mono {n : Nat} {e : Ed} (he : OkE n e) {v w : Nat → V} (hv : ∀ i, i < n → OkV (v i)) (hw : ∀ t ∈ e.tails, OkV (w t)) (h : ∀ t ∈ e.tails, leV (v t) (w t)) : leV (comb e v) (comb e w) := by
  refine combV_mono he.2.2.2 (by simp) (map_ok he hv) ?_ ?_
  · intro x hx
    obtain ⟨t, ht, rfl⟩ := List.mem_map.1 hx
    exact hw t ht
  · intro i x y hx hy
    rw [List.getElem?_map] at hx hy
    obtain ⟨t, ht, rfl⟩ := Option.map_eq_some_iff.1 hx
    rw [ht] at hy
    cases hy
    exact h t (List.mem_of_getElem? ht)
theorem comb_congr {e : Ed} {v w : Nat → V} (h : ∀ t ∈ e.tails, v t = w t) : comb e v = comb e w := by
  unfold comb
  rw [List.map_congr_left h]
theorem Der.ok {E : List Ed} {n : Nat} (hE : ∀ e ∈ E, OkE n e) {i : Nat} {y : V} (h : Der E i y) : i < n ∧ OkV y := by
  induction h with
  | mk e he f h ih =>
    refine ⟨(hE e he).1, combV_ok (hE e he).2.2.1 (hE e he).2.2.2 ?_⟩
    intro x hx
    obtain ⟨t, ht, rfl⟩ := List.mem_map.1 hx
    exact (ih t ht).2
/-- What holds each hyperedge's inequality is below every derivation. -/
theorem lower {E : List Ed} {n : Nat} (hE : ∀ e ∈ E, OkE n e) {v : Nat → V} (hok : ∀ i, i < n → OkV (v i)) (hle : ∀ e ∈ E, leV (v e.head) (comb e v)) {i : Nat} {y : V} (h : Der E i y) : leV (v i) y := by
  induction h with
  | mk e he f h ih => exact leV_trans (hle e he) (comb_mono (hE e he) hok (fun t ht => ((h t ht).ok hE).2) ih)
theorem le_inf {a : V} (h : OkV a) (hi : ¬ a.1 < INF → a = (INF, 0)) : leV a (INF, 0) := by
  unfold OkV at h
  by_cases h1 : a.1 < INF
  · rw [leV_iff]; exact .inl h1
  · rw [hi h1]; exact leV_refl _
theorem Fix.least {E : List Ed} {n : Nat} (hE : ∀ e ∈ E, OkE n e) {v w : Nat → V} (hok : ∀ i, i < n → OkV (v i)) (hle : ∀ e ∈ E, leV (v e.head) (comb e v)) (hinf : ∀ i, i < n → ¬ (v i).1 < INF → v i = (INF, 0)) (hw : Fix E n w) (i : Nat) (hi : i < n) : leV (v i) (w i) := by
  by_cases h : (w i).1 < INF
  · exact lower hE hok hle (hw.der i hi h)
  · rw [hw.inf i hi h]
    exact le_inf (hok i hi) (hinf i hi)
theorem Fix.unique {E : List Ed} {n : Nat} (hE : ∀ e ∈ E, OkE n e) {v w : Nat → V} (hv : Fix E n v) (hw : Fix E n w) (i : Nat) (hi : i < n) : v i = w i :=
  leV_antisymm (Fix.least hE hv.ok hv.le hv.inf hw i hi) (Fix.least hE hw.ok hw.le hw.inf hv i hi)
/-- Hyperedge k attains its head's finite value. -/
def Att (E : List Ed) (v : Nat → V) (i k : Nat) : Prop := ∃ e, E[k]? = some e ∧ e.head = i ∧ (v i).1 < INF ∧ comb e v = v i
structure Chosen (E : List Ed) (n : Nat) (v : Nat → V) (f : Nat → Int) : Prop where
  none : ∀ i, i < n → f i = -1 → ∀ k, ¬ Att E v i k
  some : ∀ i, i < n → f i ≠ -1 → ∃ k : Nat, f i = k ∧ Att E v i k ∧ ∀ j, j < k → ¬ Att E v i j
theorem Att.congr {E : List Ed} {n : Nat} (hE : ∀ e ∈ E, OkE n e) {v w : Nat → V} (h : ∀ i, i < n → v i = w i) {i k : Nat} (hi : i < n) (a : Att E v i k) : Att E w i k := by
  obtain ⟨e, h1, h2, h3, h4⟩ := a
  refine ⟨e, h1, h2, by rw [← h i hi]; exact h3, ?_⟩
  rw [← h i hi, ← h4]
  exact comb_congr (fun t ht => (h t ((hE e (List.mem_of_getElem? h1)).2.1 t ht)).symm)
theorem Chosen.unique {E : List Ed} {n : Nat} (hE : ∀ e ∈ E, OkE n e) {v w : Nat → V} (h : ∀ i, i < n → v i = w i) {f g : Nat → Int} (hf : Chosen E n v f) (hg : Chosen E n w g) (i : Nat) (hi : i < n) : f i = g i := by
  have h' : ∀ i, i < n → w i = v i := fun i hi => (h i hi).symm
  by_cases h1 : f i = -1
  · by_cases h2 : g i = -1
    · rw [h1, h2]
    · obtain ⟨k, _, ha, _⟩ := hg.some i hi h2
      exact absurd (ha.congr hE h' hi) (hf.none i hi h1 k)
  · obtain ⟨k, hk, ha, hb⟩ := hf.some i hi h1
    by_cases h2 : g i = -1
    · exact absurd (ha.congr hE h hi) (hg.none i hi h2 k)
    · obtain ⟨k', hk', ha', hb'⟩ := hg.some i hi h2
      rcases Nat.lt_trichotomy k k' with hlt | rfl | hlt
      · exact absurd (ha.congr hE h hi) (hb' k hlt)
      · rw [hk, hk']
      · exact absurd (ha'.congr hE h' hi) (hb k' hlt)
end Go.Proofs.Ytepfbhigeghjjaa.K
