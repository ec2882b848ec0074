/- Plain laws for chapter 29's statements: chosen hyperedges alone, hyperedges raised or removed, costs scaled, nodes renumbered. No program is named. -/
import Derived.Test.YtepfbhigeghjjaaK2
namespace Go.Proofs.Ytepfbhigeghjjaa.K
set_option linter.unusedVariables false
set_option linter.unusedSimpArgs false
theorem Der.inv {E : List Ed} {i : Nat} {y : V} (h : Der E i y) : ∃ e ∈ E, e.head = i ∧ ∃ f : Nat → V, (∀ t ∈ e.tails, Der E t (f t)) ∧ y = combV e.cost (e.tails.map f) := by
  cases h with
  | mk e he f h => exact ⟨e, he, rfl, f, h, rfl⟩
theorem Fix.att {E : List Ed} {n : Nat} (hE : ∀ e ∈ E, OkE n e) {v : Nat → V} (h : Fix E n v) {i : Nat} (hi : i < n) (hf : (v i).1 < INF) : ∃ k, Att E v i k := by
  obtain ⟨e, he, h1, f, h2, h3⟩ := (h.der i hi hf).inv
  obtain ⟨k, hk⟩ := List.getElem?_of_mem he
  refine ⟨k, e, hk, h1, hf, leV_antisymm ?_ ?_⟩
  · rw [h3]
    exact comb_mono (hE e he) h.ok (fun t ht => ((h2 t ht).ok hE).2) (fun t ht => lower hE h.ok h.le (h2 t ht))
  · rw [← h1]
    exact h.le e he
/-! ### The chosen hyperedges alone -/
theorem chosen_der {E E' : List Ed} {n : Nat} (hE : ∀ e ∈ E, OkE n e) {v : Nat → V} {f : Nat → Int} (h : Sol E n v f) (hb : ∀ i, i < n → (v i).2 < INF) (hs : ∀ i (k : Nat) e, i < n → f i = k → E[k]? = some e → e ∈ E') : ∀ (m i : Nat), i < n → wt (v i) < m → (v i).1 < INF → Der E' i (v i) := by
  intro m
  induction m with
  | zero => exact fun i _ hm _ => absurd hm (Nat.not_lt_zero _)
  | succ m ih =>
    intro i hi hm hf
    have hne : f i ≠ -1 := fun h1 => by
      obtain ⟨k, hk⟩ := h.fix.att hE hi hf
      exact h.cho.none i hi h1 k hk
    obtain ⟨k, hk, ⟨e, he, h1, _, h2⟩, _⟩ := h.cho.some i hi hne
    have hem := List.mem_of_getElem? he
    have hsup := combV_super (hE e hem).2.2.1 (hE e hem).2.2.2 (map_ok (hE e hem) h.fix.ok) (show (comb e v).1 < INF by rw [h2]; exact hf)
    have hrec : ∀ t ∈ e.tails, Der E' t (v t) := fun t ht => by
      have htn := (hE e hem).2.1 t ht
      obtain ⟨k1, _, k2⟩ := hsup (v t) (List.mem_map.2 ⟨t, ht, rfl⟩)
      have k3 := k2 (show (comb e v).2 < INF by rw [h2]; exact hb i hi)
      have k4 : ltV (v t) (v i) := by rw [← h2]; exact k3
      exact ih t htn (Nat.lt_of_lt_of_le (wt_lt (h.fix.ok t htn) (h.fix.ok i hi) k4) (Nat.le_of_lt_succ hm)) k1
    have := Der.mk (E := E') e (hs i k e hi hk he) v hrec
    rw [h1] at this
    rw [← h2]
    exact this
theorem chosen_fix {E E' : List Ed} {n : Nat} (hE : ∀ e ∈ E, OkE n e) {v : Nat → V} {f : Nat → Int} (h : Sol E n v f) (hb : ∀ i, i < n → (v i).2 < INF) (hs : ∀ i (k : Nat) e, i < n → f i = k → E[k]? = some e → e ∈ E') (hsub : ∀ e ∈ E', e ∈ E) : Fix E' n v :=
  ⟨h.fix.ok, fun e he => h.fix.le e (hsub e he), fun i hi hf => chosen_der hE h hb hs _ i hi (Nat.lt_succ_self _) hf, h.fix.inf⟩
/-! ### A cost raised, a hyperedge removed -/
theorem combV_cost {c c' : Int} {l : List V} (h : c ≤ c') (hc : c' ≤ INF) (hl : ∀ x ∈ l, OkV x) : leV (combV c l) (combV c' l) :=
  rel_end (rel_fold l l _ _ ⟨Int.le_trans h hc, hc, by
    show c < c' ∨ (c = INF ∧ c' = INF) ∨ c = c' ∧ (1 : Int) ≤ 1
    omega⟩ rfl hl hl (fun i x y hx hy => by rw [hx] at hy; cases hy; exact leV_refl _))
theorem mono_fix {E E' : List Ed} {n : Nat} (hE' : ∀ e ∈ E', OkE n e) (hs : ∀ e' ∈ E', ∃ e ∈ E, e.head = e'.head ∧ e.tails = e'.tails ∧ e.cost ≤ e'.cost) {v a : Nat → V} (hv : Fix E n v) (ha : Fix E' n a) (i : Nat) (hi : i < n) : leV (v i) (a i) := by
  refine Fix.least hE' hv.ok (fun e' he' => ?_) hv.inf ha i hi
  obtain ⟨e, he, h1, h2, h3⟩ := hs e' he'
  have h4 := hv.le e he
  rw [h1] at h4
  refine leV_trans h4 ?_
  unfold comb
  rw [h2]
  exact combV_cost h3 (hE' e' he').2.2.2 (map_ok (hE' e' he') hv.ok)
/-! ### Costs scaled -/
def s1 (l : List V) : Int := (l.map (·.1)).sum
def s2 (l : List V) : Int := (l.map (·.2)).sum
theorem s1_cons (x : V) (l : List V) : s1 (x :: l) = x.1 + s1 l := by simp [s1]
theorem s2_cons (x : V) (l : List V) : s2 (x :: l) = x.2 + s2 l := by simp [s2]
theorem s1_nn : ∀ (l : List V), (∀ x ∈ l, OkV x) → 0 ≤ s1 l
  | [], _ => by simp [s1]
  | x :: l, h => by
    have h1 := s1_nn l (fun y hy => h y (by simp [hy]))
    have h2 := (h x (by simp)).1
    rw [s1_cons]
    omega
theorem s2_nn : ∀ (l : List V), (∀ x ∈ l, OkV x) → 0 ≤ s2 l
  | [], _ => by simp [s2]
  | x :: l, h => by
    have h1 := s2_nn l (fun y hy => h y (by simp [hy]))
    have h2 := (h x (by simp)).2.2.1
    rw [s2_cons]
    omega
theorem s1_mem : ∀ (l : List V), (∀ x ∈ l, OkV x) → ∀ x ∈ l, x.1 ≤ s1 l
  | [], _, x, hx => by cases hx
  | y :: l, h, x, hx => by
    have h1 := s1_nn l (fun y hy => h y (by simp [hy]))
    have h2 := (h y (by simp)).1
    rw [s1_cons]
    rcases List.mem_cons.1 hx with rfl | hx
    · omega
    · have := s1_mem l (fun y hy => h y (by simp [hy])) x hx
      omega
theorem fold_sum : ∀ (l : List V) (a : V), a.1 ≤ INF → a.2 ≤ INF → (∀ x ∈ l, OkV x) → l.foldl stepV a = (min (a.1 + s1 l) INF, min (a.2 + s2 l) INF)
  | [], a, h1, h2, _ => by
    simp only [List.foldl_nil, s1, s2, List.map_nil, List.sum_nil, Int.add_zero]
    exact Prod.ext (Int.min_eq_left h1).symm (Int.min_eq_left h2).symm
  | x :: l, a, h1, h2, h => by
    have h3 := s1_nn l (fun y hy => h y (by simp [hy]))
    have h4 := s2_nn l (fun y hy => h y (by simp [hy]))
    have hx := h x (by simp)
    unfold OkV at hx
    rw [List.foldl_cons, fold_sum l (stepV a x) (Int.min_le_right _ _) (Int.min_le_right _ _) (fun y hy => h y (by simp [hy])), s1_cons, s2_cons]
    refine Prod.ext ?_ ?_
    · show min (min (a.1 + x.1) INF + s1 l) INF = min (a.1 + (x.1 + s1 l)) INF
      omega
    · show min (min (a.2 + x.2) INF + s2 l) INF = min (a.2 + (x.2 + s2 l)) INF
      omega
theorem combV_eq {cost : Int} {l : List V} (hc : cost ≤ INF) (h : ∀ x ∈ l, OkV x) : combV cost l = if INF ≤ cost + s1 l then (INF, 0) else (cost + s1 l, min (1 + s2 l) INF) := by
  unfold combV endV
  rw [fold_sum l (cost, 1) hc (show (1 : Int) ≤ INF by decide) h]
  by_cases h1 : INF ≤ cost + s1 l
  · rw [if_pos (show INF ≤ min (cost + s1 l) INF by omega), if_pos h1]
  · rw [if_neg (show ¬ INF ≤ min (cost + s1 l) INF by omega), if_neg h1]
    exact Prod.ext (Int.min_eq_left (by omega)) rfl
def scV (k : Int) (a : V) : V := if a.1 < INF then (k * a.1, a.2) else a
def scE (k : Int) (e : Ed) : Ed := ⟨e.head, e.tails, k * e.cost⟩
theorem sc_s1 {k : Int} : ∀ (l : List V), (∀ x ∈ l, x.1 < INF) → s1 (l.map (scV k)) = k * s1 l
  | [], _ => by simp [s1]
  | x :: l, h => by
    rw [List.map_cons, s1_cons, s1_cons, sc_s1 l (fun y hy => h y (by simp [hy])), Int.mul_add]
    have : (scV k x).1 = k * x.1 := by unfold scV; rw [if_pos (h x (by simp))]
    rw [this]
theorem sc_s2 {k : Int} : ∀ (l : List V), s2 (l.map (scV k)) = s2 l
  | [] => rfl
  | x :: l => by
    rw [List.map_cons, s2_cons, s2_cons, sc_s2 l]
    have : (scV k x).2 = x.2 := by unfold scV; split <;> rfl
    rw [this]
theorem le_mul {k a : Int} (hk : 1 ≤ k) (ha : 0 ≤ a) : a ≤ k * a := by
  have := Int.mul_le_mul_of_nonneg_right hk ha
  rwa [Int.one_mul] at this
theorem sc_ge {k : Int} (hk : 1 ≤ k) : ∀ (l : List V), (∀ x ∈ l, OkV x) → s1 l ≤ s1 (l.map (scV k))
  | [], _ => Int.le_refl _
  | x :: l, h => by
    rw [List.map_cons, s1_cons, s1_cons]
    have h1 := sc_ge hk l (fun y hy => h y (by simp [hy]))
    have h2 : x.1 ≤ (scV k x).1 := by
      unfold scV
      split
      · exact le_mul hk (h x (by simp)).1
      · exact Int.le_refl _
    omega
/-- Scaled values, each still a value. -/
def ScOk (k : Int) (x : V) : Prop := OkV x ∧ OkV (scV k x)
theorem combV_sc {k cost : Int} {l : List V} (hk : 1 ≤ k) (h0 : 0 ≤ cost) (hc : k * cost ≤ INF) (h : ∀ x ∈ l, ScOk k x) :
    combV (k * cost) (l.map (scV k)) = if (combV cost l).1 < INF ∧ k * (combV cost l).1 < INF then (k * (combV cost l).1, (combV cost l).2) else (INF, 0) := by
  have hl : ∀ x ∈ l, OkV x := fun x hx => (h x hx).1
  have hl' : ∀ x ∈ l.map (scV k), OkV x := fun x hx => by
    obtain ⟨y, hy, rfl⟩ := List.mem_map.1 hx
    exact (h y hy).2
  have hcc : cost ≤ INF := Int.le_trans (le_mul hk h0) hc
  rw [combV_eq hc hl', combV_eq hcc hl, sc_s2]
  by_cases h1 : INF ≤ cost + s1 l
  · have h2 : INF ≤ k * cost + s1 (l.map (scV k)) := by
      have := le_mul hk h0
      have := sc_ge hk l hl
      omega
    rw [if_pos h2, if_pos h1, if_neg (fun h => absurd h.1 (by decide))]
  · have hfin : ∀ x ∈ l, x.1 < INF := fun x hx => by
      have := s1_mem l hl x hx
      omega
    rw [if_neg h1, sc_s1 l hfin, ← Int.mul_add]
    show _ = if cost + s1 l < INF ∧ k * (cost + s1 l) < INF then _ else _
    by_cases h3 : INF ≤ k * (cost + s1 l)
    · rw [if_pos h3, if_neg (fun h => by omega)]
    · rw [if_neg h3, if_pos ⟨by omega, by omega⟩]
theorem scV_ok {k : Int} {a : V} (hk : 0 ≤ k) (h : OkV a) (hl : a.1 < INF → k * a.1 ≤ INF) : OkV (scV k a) := by
  unfold scV
  split
  · rename_i hf
    exact ⟨Int.mul_nonneg hk h.1, hl hf, h.2.2⟩
  · exact h
theorem Der.sc {E : List Ed} {n : Nat} {k : Int} (hk : 1 ≤ k) (hE : ∀ e ∈ E, OkE n e) (hE' : ∀ e ∈ E, k * e.cost ≤ INF) {i : Nat} {y : V} (h : Der E i y) (hf : y.1 < INF) (hf' : k * y.1 < INF) : Der (E.map (scE k)) i (k * y.1, y.2) := by
  induction h with
  | mk e he f h ih =>
    have hl : ∀ x ∈ e.tails.map f, OkV x := fun x hx => by
      obtain ⟨t, ht, rfl⟩ := List.mem_map.1 hx
      exact ((h t ht).ok hE).2
    have hsup := combV_super (hE e he).2.2.1 (hE e he).2.2.2 hl hf
    have hle : ∀ t ∈ e.tails, (f t).1 < INF ∧ (f t).1 ≤ (combV e.cost (e.tails.map f)).1 := fun t ht => by
      obtain ⟨k1, k2, _⟩ := hsup (f t) (List.mem_map.2 ⟨t, ht, rfl⟩)
      rw [leV_iff] at k2
      exact ⟨k1, by omega⟩
    have hk0 : 0 ≤ k := by omega
    have hmul : ∀ t ∈ e.tails, k * (f t).1 < INF := fun t ht => Int.lt_of_le_of_lt (Int.mul_le_mul_of_nonneg_left (hle t ht).2 hk0) hf'
    have hd := Der.mk (E := E.map (scE k)) (scE k e) (List.mem_map.2 ⟨e, he, rfl⟩) (fun t => scV k (f t)) (fun t ht => by
      have := ih t ht (hle t ht).1 (hmul t ht)
      have e1 : scV k (f t) = (k * (f t).1, (f t).2) := by unfold scV; rw [if_pos (hle t ht).1]
      rw [e1]
      exact this)
    have e2 : combV (scE k e).cost ((scE k e).tails.map (fun t => scV k (f t))) = (k * (combV e.cost (e.tails.map f)).1, (combV e.cost (e.tails.map f)).2) := by
      show combV (k * e.cost) (e.tails.map (fun t => scV k (f t))) = _
      have e3 : e.tails.map (fun t => scV k (f t)) = (e.tails.map f).map (scV k) := by rw [List.map_map]; rfl
      rw [e3, combV_sc hk (hE e he).2.2.1 (hE' e he) (fun x hx => by
        obtain ⟨t, ht, rfl⟩ := List.mem_map.1 hx
        exact ⟨hl _ hx, scV_ok hk0 (hl _ hx) (fun _ => Int.le_of_lt (hmul t ht))⟩), if_pos ⟨hf, hf'⟩]
    rw [e2] at hd
    exact hd
theorem scale_sol {E : List Ed} {n : Nat} {k : Int} (hk : 1 ≤ k) (hE : ∀ e ∈ E, OkE n e) (hE' : ∀ e ∈ E, k * e.cost ≤ INF) {v : Nat → V} {f : Nat → Int} (h : Sol E n v f) (hv : ∀ i, i < n → (v i).1 < INF → k * (v i).1 < INF) : Sol (E.map (scE k)) n (fun i => scV k (v i)) f := by
  have hk0 : 0 ≤ k := by omega
  have hkp : 0 < k := by omega
  have hsc : ∀ i, i < n → ScOk k (v i) := fun i hi => ⟨h.fix.ok i hi, scV_ok hk0 (h.fix.ok i hi) (fun hf => Int.le_of_lt (hv i hi hf))⟩
  have hfin : ∀ i, (v i).1 < INF → scV k (v i) = (k * (v i).1, (v i).2) := fun i hf => by unfold scV; rw [if_pos hf]
  have hnf : ∀ i, ¬ (v i).1 < INF → scV k (v i) = v i := fun i hf => by unfold scV; rw [if_neg hf]
  have hcomb : ∀ e ∈ E, comb (scE k e) (fun i => scV k (v i)) = if (comb e v).1 < INF ∧ k * (comb e v).1 < INF then (k * (comb e v).1, (comb e v).2) else (INF, 0) := fun e he => by
    show combV (k * e.cost) (e.tails.map (fun t => scV k (v t))) = _
    have e3 : e.tails.map (fun t => scV k (v t)) = (e.tails.map v).map (scV k) := by rw [List.map_map]; rfl
    rw [e3, combV_sc hk (hE e he).2.2.1 (hE' e he) (fun x hx => by
      obtain ⟨t, ht, rfl⟩ := List.mem_map.1 hx
      exact hsc t ((hE e he).2.1 t ht))]
    rfl
  have hok : ∀ i, i < n → OkV (scV k (v i)) := fun i hi => (hsc i hi).2
  have hinf : ∀ i, i < n → ¬ (scV k (v i)).1 < INF → scV k (v i) = (INF, 0) := fun i hi hi' => by
    by_cases hf : (v i).1 < INF
    · rw [hfin i hf] at hi'
      exact absurd (hv i hi hf) hi'
    · rw [hnf i hf]
      exact h.fix.inf i hi hf
  have hatt : ∀ i j, i < n → (Att (E.map (scE k)) (fun i => scV k (v i)) i j ↔ Att E v i j) := by
    intro i j hi
    constructor
    · rintro ⟨e', h1, h2, h3, h4⟩
      rw [List.getElem?_map] at h1
      obtain ⟨e, he, rfl⟩ := Option.map_eq_some_iff.1 h1
      have hf : (v i).1 < INF := by
        by_cases hf : (v i).1 < INF
        · exact hf
        · have h3 : (scV k (v i)).1 < INF := h3
          rw [hnf i hf] at h3
          exact h3
      have h4 : comb (scE k e) (fun i => scV k (v i)) = scV k (v i) := h4
      rw [hcomb e (List.mem_of_getElem? he), hfin i hf] at h4
      refine ⟨e, he, h2, hf, ?_⟩
      split at h4
      · have h5 := congrArg Prod.fst h4
        have h6 := congrArg Prod.snd h4
        exact Prod.ext (Int.eq_of_mul_eq_mul_left (by omega) h5) h6
      · have h5 : INF = k * (v i).1 := congrArg Prod.fst h4
        have := hv i hi hf
        omega
    · rintro ⟨e, h1, h2, h3, h4⟩
      refine ⟨scE k e, by rw [List.getElem?_map, h1]; rfl, h2, ?_, ?_⟩
      · show (scV k (v i)).1 < INF
        rw [hfin i h3]
        exact hv i hi h3
      · show comb (scE k e) (fun i => scV k (v i)) = scV k (v i)
        rw [hcomb e (List.mem_of_getElem? h1), hfin i h3, h4, if_pos ⟨h3, hv i hi h3⟩]
  refine ⟨⟨hok, fun e' he' => ?_, fun i hi hi' => ?_, hinf⟩, ⟨fun i hi hf k hk => ?_, fun i hi hf => ?_⟩⟩
  · obtain ⟨e, he, rfl⟩ := List.mem_map.1 he'
    rw [hcomb e he]
    show leV (scV k (v e.head)) _
    split
    · rename_i hc
      have h1 := h.fix.le e he
      rw [leV_iff] at h1
      have hf : (v e.head).1 < INF := by
        have := hc.1
        omega
      rw [hfin _ hf, leV_iff]
      rcases h1 with h1 | ⟨h1, h2⟩
      · exact .inl (Int.mul_lt_mul_of_pos_left h1 hkp)
      · exact .inr ⟨by show k * _ = k * _; rw [h1], h2⟩
    · exact le_inf (hok _ (hE e he).1) (hinf _ (hE e he).1)
  · by_cases hf : (v i).1 < INF
    · show Der _ i (scV k (v i))
      rw [hfin i hf]
      exact (h.fix.der i hi hf).sc hk hE hE' hf (hv i hi hf)
    · have hi' : (scV k (v i)).1 < INF := hi'
      rw [hnf i hf] at hi'
      exact absurd hi' hf
  · exact h.cho.none i hi hf k ((hatt i k hi).1 hk)
  · obtain ⟨k', h1, h2, h3⟩ := h.cho.some i hi hf
    exact ⟨k', h1, (hatt i k' hi).2 h2, fun j hj hj' => h3 j hj ((hatt i j hi).1 hj')⟩
/-! ### Nodes renumbered -/
def reE (g : Nat → Nat) (e : Ed) : Ed := ⟨g e.head, e.tails.map g, e.cost⟩
theorem comb_re (g : Nat → Nat) (e : Ed) (w : Nat → V) : comb (reE g e) w = comb e (fun i => w (g i)) := by
  show combV e.cost ((e.tails.map g).map w) = combV e.cost (e.tails.map _)
  rw [List.map_map]
  rfl
theorem Der.re {E : List Ed} {n : Nat} {g : Nat → Nat} (hE : ∀ e ∈ E, OkE n e) (hg : ∀ i j, i < n → j < n → g i = g j → i = j) {j : Nat} {y : V} (h : Der (E.map (reE g)) j y) : ∀ i, i < n → g i = j → Der E i y := by
  induction h with
  | mk e' he' f h ih =>
    intro i hi hij
    obtain ⟨e, he, rfl⟩ := List.mem_map.1 he'
    obtain rfl : i = e.head := hg i e.head hi (hE e he).1 hij
    have := Der.mk (E := E) e he (fun t => f (g t)) (fun t ht => ih (g t) (List.mem_map.2 ⟨t, ht, rfl⟩) t ((hE e he).2.1 t ht) rfl)
    have e1 : combV (reE g e).cost ((reE g e).tails.map f) = combV e.cost (e.tails.map fun t => f (g t)) := comb_re g e f
    rw [e1]
    exact this
theorem relabel_sol {E : List Ed} {n : Nat} {g : Nat → Nat} (hE : ∀ e ∈ E, OkE n e) (hg0 : ∀ i, i < n → g i < n) (hg : ∀ i j, i < n → j < n → g i = g j → i = j) {w : Nat → V} {f : Nat → Int} (h : Sol (E.map (reE g)) n w f) : Sol E n (fun i => w (g i)) (fun i => f (g i)) := by
  have hatt : ∀ i j, i < n → (Att (E.map (reE g)) w (g i) j ↔ Att E (fun i => w (g i)) i j) := by
    intro i j hi
    constructor
    · rintro ⟨e', h1, h2, h3, h4⟩
      rw [List.getElem?_map] at h1
      obtain ⟨e, he, rfl⟩ := Option.map_eq_some_iff.1 h1
      rw [comb_re] at h4
      exact ⟨e, he, hg _ _ (hE e (List.mem_of_getElem? he)).1 hi h2, h3, h4⟩
    · rintro ⟨e, h1, h2, h3, h4⟩
      refine ⟨reE g e, by rw [List.getElem?_map, h1]; rfl, congrArg g h2, h3, ?_⟩
      rw [comb_re]
      exact h4
  refine ⟨⟨fun i hi => h.fix.ok _ (hg0 i hi), fun e he => ?_, fun i hi hf => (h.fix.der (g i) (hg0 i hi) hf).re hE hg i hi rfl, fun i hi => h.fix.inf _ (hg0 i hi)⟩, ⟨fun i hi hf k hk => ?_, fun i hi hf => ?_⟩⟩
  · have := h.fix.le (reE g e) (List.mem_map.2 ⟨e, he, rfl⟩)
    rw [comb_re] at this
    exact this
  · exact h.cho.none (g i) (hg0 i hi) hf k ((hatt i k hi).2 hk)
  · obtain ⟨k, h1, h2, h3⟩ := h.cho.some (g i) (hg0 i hi) hf
    exact ⟨k, h1, (hatt i k hi).1 h2, fun j hj hj' => h3 j hj ((hatt i j hi).2 hj')⟩
def rot (n k i : Nat) : Nat := (i + k) % n
theorem rot_eq {n k i : Nat} (hi : i < n) (hk : k < n) : rot n k i = if i + k < n then i + k else i + k - n := by
  unfold rot
  split
  · exact Nat.mod_eq_of_lt (by omega)
  · rw [Nat.mod_eq_sub_mod (by omega)]
    exact Nat.mod_eq_of_lt (by omega)
theorem rot_lt {n k i : Nat} (hi : i < n) : rot n k i < n := Nat.mod_lt _ (by omega)
theorem rot_inj {n k : Nat} (hk : k < n) (i j : Nat) (hi : i < n) (hj : j < n) (h : rot n k i = rot n k j) : i = j := by
  rw [rot_eq hi hk, rot_eq hj hk] at h
  split at h <;> split at h <;> omega
/-! ### What a fixpoint satisfies -/
theorem Der.closed {E : List Ed} {d : Nat → Bool} (hd : ∀ e ∈ E, (∀ t ∈ e.tails, d t = true) → d e.head = true) {i : Nat} {y : V} (h : Der E i y) : d i = true := by
  induction h with
  | mk e he f h ih => exact hd e he ih
theorem Sol.edge {E : List Ed} {n : Nat} {v : Nat → V} {f : Nat → Int} (h : Sol E n v f) {k : Nat} {e : Ed} (hE : ∀ e ∈ E, OkE n e) (he : E[k]? = some e) : ¬ ltV (comb e v) (v e.head) ∧ (comb e v = v e.head → (comb e v).1 < INF → 0 ≤ f e.head ∧ f e.head ≤ k) := by
  have hem := List.mem_of_getElem? he
  refine ⟨h.fix.le e hem, fun h1 h2 => ?_⟩
  have ha : Att E v e.head k := ⟨e, he, rfl, by rw [← h1]; exact h2, h1⟩
  have hne : f e.head ≠ -1 := fun h3 => h.cho.none _ (hE e hem).1 h3 k ha
  obtain ⟨k', h3, _, h4⟩ := h.cho.some _ (hE e hem).1 hne
  refine ⟨by omega, ?_⟩
  by_cases h5 : k < k'
  · exact absurd ha (h4 k h5)
  · omega
theorem Sol.node {E : List Ed} {n : Nat} {v : Nat → V} {f : Nat → Int} (h : Sol E n v f) (hE : ∀ e ∈ E, OkE n e) {i : Nat} (hi : i < n) :
    ((v i).1 < INF ∧ ∃ (k : Nat) (e : Ed), f i = k ∧ E[k]? = some e ∧ e.head = i ∧ Der E i (v i)) ∨ (f i = -1 ∧ v i = (INF, 0)) := by
  by_cases h1 : f i = -1
  · refine .inr ⟨h1, h.fix.inf i hi (fun h2 => ?_)⟩
    obtain ⟨k, hk⟩ := h.fix.att hE hi h2
    exact h.cho.none i hi h1 k hk
  · obtain ⟨k, h2, ⟨e, h3, h4, h5, h6⟩, _⟩ := h.cho.some i hi h1
    exact .inl ⟨h5, k, e, h2, h3, h4, h.fix.der i hi h5⟩
end Go.Proofs.Ytepfbhigeghjjaa.K
