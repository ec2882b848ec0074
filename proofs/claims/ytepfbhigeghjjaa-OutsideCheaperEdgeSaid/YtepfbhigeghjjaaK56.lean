/- Outside costs: what they are, the reference's iteration, the program's steps on expanded nodes and candidates. No program is named. The example of chapter 33: its inside and outside costs. Plain. -/
import Derived.Test.YtepfbhigeghjjaaK2
import Derived.Test.YtepfbhigeghjjaaK3
namespace Go.Proofs.Ytepfbhigeghjjaa.K
set_option linter.unusedVariables false
set_option linter.unusedSimpArgs false
/-- The inside costs of all tails but that at k, the first tail being at j. -/
def oth (inn : Nat → Int) : List Nat → Nat → Int → Int
  | [], _, _ => 0
  | t :: l, j, k => (if (j : Int) = k then 0 else inn t) + oth inn l (j + 1) k
theorem oth_append (inn : Nat → Int) (k : Int) : ∀ (l m : List Nat) (j : Nat), oth inn (l ++ m) j k = oth inn l j k + oth inn m (j + l.length) k
  | [], m, j => by simp [oth]
  | t :: l, m, j => by
    simp only [List.cons_append, oth, oth_append inn k l m (j + 1), List.length_cons]
    rw [show j + 1 + l.length = j + (l.length + 1) by omega]
    omega
theorem oth_take {inn : Nat → Int} {l : List Nat} {i t : Nat} (k : Int) (h : l[i]? = some t) : oth inn (l.take (i + 1)) 0 k = oth inn (l.take i) 0 k + (if (i : Int) = k then 0 else inn t) := by
  have hi := (List.getElem?_eq_some_iff.1 h).1
  rw [List.take_add_one, h, Option.toList, oth_append]
  have : 0 + (l.take i).length = i := by rw [List.length_take]; omega
  rw [this]
  simp [oth]
theorem oth_nn {inn : Nat → Int} (k : Int) : ∀ (l : List Nat) (j : Nat), (∀ t ∈ l, 0 ≤ inn t) → 0 ≤ oth inn l j k
  | [], _, _ => Int.le_refl _
  | t :: l, j, h => by
    have h1 := oth_nn k l (j + 1) (fun x hx => h x (by simp [hx]))
    have h2 := h t (by simp)
    simp only [oth]
    split <;> omega
theorem oth_congr {inn inn' : Nat → Int} (k : Int) : ∀ (l : List Nat) (j : Nat), (∀ t ∈ l, inn t = inn' t) → oth inn l j k = oth inn' l j k
  | [], _, _ => rfl
  | t :: l, j, h => by
    simp only [oth]
    rw [h t (by simp), oth_congr k l (j + 1) (fun x hx => h x (by simp [hx]))]
theorem oth_mono {inn inn' : Nat → Int} (k : Int) : ∀ (l : List Nat) (j : Nat), (∀ t ∈ l, inn t ≤ inn' t) → oth inn l j k ≤ oth inn' l j k
  | [], _, _ => Int.le_refl _
  | t :: l, j, h => by
    have h1 := oth_mono k l (j + 1) (fun x hx => h x (by simp [hx]))
    have h2 := h t (by simp)
    simp only [oth]
    split <;> omega
/-- What head's outside cost d gives the tail at k. -/
def oc (inn : Nat → Int) (e : Ed) (d : Int) (k : Int) : Int := min (d + e.cost + oth inn e.tails 0 k) INF
inductive Path (E : List Ed) (inn : Nat → Int) (root : Nat) : Nat → Int → Prop
  | root : Path E inn root root 0
  | step (e : Ed) (d : Int) (h : Path E inn root e.head d) (he : e ∈ E) (k t : Nat) (ht : e.tails[k]? = some t) : Path E inn root t (oc inn e d k)
structure OSol (E : List Ed) (n : Nat) (inn : Nat → Int) (root : Nat) (out : Nat → Int) : Prop where
  ok : ∀ i, i < n → 0 ≤ out i ∧ out i ≤ INF
  rt : out root = 0
  le : ∀ e ∈ E, ∀ k t : Nat, e.tails[k]? = some t → out t ≤ oc inn e (out e.head) k
  path : ∀ i, i < n → out i < INF → Path E inn root i (out i)
theorem oc_mono {inn inn' : Nat → Int} {e : Ed} {d d' : Int} {k : Int} (h : d ≤ d') (hi : ∀ t ∈ e.tails, inn t ≤ inn' t) : oc inn e d k ≤ oc inn' e d' k := by
  have := oth_mono k e.tails 0 hi
  unfold oc
  omega
theorem oc_congr {inn inn' : Nat → Int} {e : Ed} {d : Int} {k : Int} (hi : ∀ t ∈ e.tails, inn t = inn' t) : oc inn e d k = oc inn' e d k := by
  unfold oc
  rw [oth_congr k e.tails 0 hi]
theorem Path.lower {E : List Ed} {inn : Nat → Int} {root : Nat} {out : Nat → Int} (h0 : out root ≤ 0) (hle : ∀ e ∈ E, ∀ k t : Nat, e.tails[k]? = some t → out t ≤ oc inn e (out e.head) k) {i : Nat} {y : Int} (h : Path E inn root i y) : out i ≤ y := by
  induction h with
  | root => exact h0
  | step e d h he k t ht ih => exact Int.le_trans (hle e he k t ht) (oc_mono ih (fun _ _ => Int.le_refl _))
theorem OSol.least {E : List Ed} {n : Nat} {inn : Nat → Int} {root : Nat} {a b : Nat → Int} (h0 : a root ≤ 0) (ha : ∀ i, i < n → a i ≤ INF) (hle : ∀ e ∈ E, ∀ k t : Nat, e.tails[k]? = some t → a t ≤ oc inn e (a e.head) k) (hb : OSol E n inn root b) (i : Nat) (hi : i < n) : a i ≤ b i := by
  by_cases h : b i < INF
  · exact (hb.path i hi h).lower h0 hle
  · have := ha i hi
    omega
theorem OSol.unique {E : List Ed} {n : Nat} {inn : Nat → Int} {root : Nat} {a b : Nat → Int} (ha : OSol E n inn root a) (hb : OSol E n inn root b) (i : Nat) (hi : i < n) : a i = b i :=
  Int.le_antisymm (OSol.least (Int.le_of_eq ha.rt) (fun i hi => (ha.ok i hi).2) ha.le hb i hi) (OSol.least (Int.le_of_eq hb.rt) (fun i hi => (hb.ok i hi).2) hb.le ha i hi)
theorem Path.congr {E : List Ed} {n : Nat} (hE : ∀ e ∈ E, OkE n e) {inn inn' : Nat → Int} {root : Nat} (hi : ∀ i, i < n → inn i = inn' i) {i : Nat} {y : Int} (h : Path E inn root i y) : Path E inn' root i y := by
  induction h with
  | root => exact .root
  | step e d h he k t ht ih =>
    rw [oc_congr (inn' := inn') (fun t ht => hi t ((hE e he).2.1 t ht))]
    exact .step e d ih he k t ht
theorem OSol.congr {E : List Ed} {n : Nat} (hE : ∀ e ∈ E, OkE n e) {inn inn' : Nat → Int} {root : Nat} {a : Nat → Int} (hi : ∀ i, i < n → inn i = inn' i) (h : OSol E n inn root a) : OSol E n inn' root a :=
  ⟨h.ok, h.rt, fun e he k t ht => by
    rw [← oc_congr (inn := inn) (fun t ht => hi t ((hE e he).2.1 t ht))]
    exact h.le e he k t ht, fun i hi' hf => (h.path i hi' hf).congr hE hi⟩
/-! ### The reference's iteration -/
structure RO (E : List Ed) (n : Nat) (inn : Nat → Int) (root : Nat) (out : Nat → Int) : Prop where
  ok : ∀ i, i < n → 0 ≤ out i ∧ out i ≤ INF
  rt : out root = 0
  path : ∀ i, i < n → out i < INF → Path E inn root i (out i)
theorem RO.start {E : List Ed} {n : Nat} {inn : Nat → Int} {root : Nat} : RO E n inn root (upd (fun _ => INF) root 0) := by
  refine ⟨fun i hi => ?_, upd_self _ _ _, fun i hi hf => ?_⟩
  · by_cases h : i = root
    · subst h
      rw [upd_self]
      decide
    · rw [upd_ne _ _ h]
      show (0 : Int) ≤ INF ∧ INF ≤ INF
      decide
  · by_cases h : i = root
    · subst h
      rw [upd_self]
      exact .root
    · rw [upd_ne _ _ h] at hf
      exact absurd hf (by decide)
theorem oc_nn {inn : Nat → Int} {n : Nat} {e : Ed} (he : OkE n e) (hin : ∀ i, i < n → 0 ≤ inn i) {d : Int} (hd : 0 ≤ d) (k : Int) : 0 ≤ oc inn e d k ∧ (oc inn e d k < INF → d ≤ oc inn e d k ∧ d < INF) := by
  have h1 := oth_nn (inn := inn) k e.tails 0 (fun t ht => hin t (he.2.1 t ht))
  have h2 := he.2.2.1
  have hI : INF = 1099511627776 := rfl
  unfold oc
  omega
theorem RO.step {E : List Ed} {n : Nat} (hE : ∀ e ∈ E, OkE n e) {inn : Nat → Int} (hin : ∀ i, i < n → 0 ≤ inn i) {root : Nat} {out : Nat → Int} (h : RO E n inn root out) {e : Ed} (he : e ∈ E) {k t : Nat} (ht : e.tails[k]? = some t) (hl : oc inn e (out e.head) k < out t) : RO E n inn root (upd out t (oc inn e (out e.head) k)) := by
  have htn := (hE e he).2.1 t (List.mem_of_getElem? ht)
  have h0 := h.ok e.head (hE e he).1
  obtain ⟨h1, h2⟩ := oc_nn (hE e he) hin h0.1 k
  have h3 := (h.ok t htn).2
  have h4 := h2 (Int.lt_of_lt_of_le hl h3)
  refine ⟨fun i hi => ?_, ?_, fun i hi hf => ?_⟩
  · by_cases h5 : i = t
    · subst h5; rw [upd_self]; omega
    · rw [upd_ne _ _ h5]; exact h.ok i hi
  · rw [upd_ne]
    · exact h.rt
    · rintro rfl
      rw [h.rt] at hl
      omega
  · by_cases h5 : i = t
    · subst h5
      rw [upd_self]
      exact .step e _ (h.path _ (hE e he).1 h4.2) he k i ht
    · rw [upd_ne _ _ h5] at hf ⊢
      exact h.path i hi hf
theorem RO.done {E : List Ed} {n : Nat} {inn : Nat → Int} {root : Nat} {out : Nat → Int} (h : RO E n inn root out) (hl : ∀ (j : Nat) e, E[j]? = some e → ∀ k t : Nat, e.tails[k]? = some t → ¬ oc inn e (out e.head) k < out t) : OSol E n inn root out :=
  ⟨h.ok, h.rt, fun e he k t ht => by
    obtain ⟨j, hj⟩ := List.getElem?_of_mem he
    exact Int.not_lt.1 (hl j e hj k t ht), h.path⟩
def sumO (out : Nat → Int) : Nat → Nat
  | 0 => 0
  | n + 1 => sumO out n + (out n).toNat
theorem sumO_congr {v w : Nat → Int} : ∀ n, (∀ i, i < n → v i = w i) → sumO v n = sumO w n
  | 0, _ => rfl
  | n + 1, h => by
    simp only [sumO]
    rw [sumO_congr n (fun i hi => h i (by omega)), h n (by omega)]
theorem sumO_upd {v : Nat → Int} {i : Nat} {y : Int} (h0 : 0 ≤ y) (hl : y < v i) : ∀ n, i < n → sumO (upd v i y) n < sumO v n
  | 0, h => by omega
  | n + 1, h => by
    simp only [sumO]
    by_cases hi : i = n
    · subst hi
      rw [upd_self, sumO_congr (v := upd v i y) (w := v) i (fun j hj => upd_ne v y (by omega : j ≠ i))]
      omega
    · rw [upd_ne _ _ (by omega : n ≠ i)]
      have := sumO_upd h0 hl n (by omega)
      omega
/-! ### The program's steps -/
structure O2 where
  cost : Int
  node : Nat
structure OI (E : List Ed) (n : Nat) (inn : Nat → Int) (root : Nat) (out : Nat → Int) (S : List O2) (D : List Nat) (last : Int) (R : Nat → Nat → Prop) : Prop where
  ro : RO E n inn root out
  cand : ∀ p ∈ S, p.node < n ∧ last ≤ p.cost ∧ p.cost < INF ∧ out p.node ≤ p.cost
  cov : ∀ i, i < n → out i < INF → i ∈ D ∨ ⟨out i, i⟩ ∈ S
  exp : ∀ i ∈ D, i < n ∧ out i ≤ last
  nd : D.Nodup
  dist : S.Nodup
  fresh : ∀ p ∈ S, p.node ∈ D → out p.node < p.cost
  rel : ∀ (j : Nat) e (k t : Nat), E[j]? = some e → R j k → e.tails[k]? = some t → e.head ∈ D ∧ out t ≤ oc inn e (out e.head) k
theorem OI.perm {E : List Ed} {n : Nat} {inn : Nat → Int} {root : Nat} {out : Nat → Int} {S S' : List O2} {D : List Nat} {last : Int} {R : Nat → Nat → Prop} (h : OI E n inn root out S D last R) (hp : S.Perm S') : OI E n inn root out S' D last R :=
  ⟨h.ro, fun p hp' => h.cand p (hp.symm.subset hp'), fun i hi hf => (h.cov i hi hf).imp id (fun h => hp.subset h), h.exp, h.nd, hp.nodup_iff.1 h.dist, fun p hp' => h.fresh p (hp.symm.subset hp'), h.rel⟩
theorem OI.start {E : List Ed} {n : Nat} {inn : Nat → Int} {root : Nat} (hr : root < n) : OI E n inn root (upd (fun _ => INF) root 0) [⟨0, root⟩] [] 0 (fun _ _ => False) := by
  refine ⟨.start, fun p hp => ?_, fun i hi hf => .inr ?_, (fun _ h => by cases h), List.nodup_nil, by simp, (fun _ _ h => by cases h), (fun _ _ _ _ _ h => h.elim)⟩
  · obtain rfl : p = ⟨0, root⟩ := by simpa using hp
    refine ⟨hr, Int.le_refl _, (show (0 : Int) < INF by decide), ?_⟩
    show upd _ root 0 root ≤ 0
    rw [upd_self]
    exact Int.le_refl _
  · by_cases h : i = root
    · subst h; rw [upd_self]; simp
    · rw [upd_ne _ _ h] at hf
      exact absurd hf (by decide)
theorem OI.skip {E : List Ed} {n : Nat} {inn : Nat → Int} {root : Nat} {out : Nat → Int} {S : List O2} {m : O2} {D : List Nat} {last : Int} {R : Nat → Nat → Prop} (h : OI E n inn root out (m :: S) D last R) (hm : ∀ p ∈ S, m.cost ≤ p.cost) (hs : out m.node < m.cost) : OI E n inn root out S D m.cost R := by
  have hc := h.cand m (by simp)
  refine ⟨h.ro, fun p hp => ?_, fun i hi hf => ?_, fun i hi => ?_, h.nd, (List.nodup_cons.1 h.dist).2, fun p hp => h.fresh p (by simp [hp]), h.rel⟩
  · obtain ⟨h1, h2, h3⟩ := h.cand p (by simp [hp])
    exact ⟨h1, hm p hp, h3⟩
  · rcases h.cov i hi hf with h1 | h1
    · exact .inl h1
    · rcases List.mem_cons.1 h1 with h1 | h1
      · subst h1
        exact absurd hs (Int.lt_irrefl _)
      · exact .inr h1
  · obtain ⟨h1, h2⟩ := h.exp i hi
    exact ⟨h1, Int.le_trans h2 hc.2.1⟩
theorem OI.expand {E : List Ed} {n : Nat} {inn : Nat → Int} {root : Nat} {out : Nat → Int} {S : List O2} {m : O2} {D : List Nat} {last : Int} {R : Nat → Nat → Prop} (h : OI E n inn root out (m :: S) D last R) (hm : ∀ p ∈ S, m.cost ≤ p.cost) (hs : ¬ out m.node < m.cost) : OI E n inn root out S (m.node :: D) m.cost R ∧ out m.node = m.cost ∧ m.node < n ∧ m.node ∉ D := by
  have hc := h.cand m (by simp)
  have he : out m.node = m.cost := by omega
  have hnd : m.node ∉ D := fun hd => by
    have := h.fresh m (by simp) hd
    omega
  refine ⟨⟨h.ro, fun p hp => ?_, fun i hi hf => ?_, fun i hi => ?_, List.nodup_cons.2 ⟨hnd, h.nd⟩, (List.nodup_cons.1 h.dist).2, fun p hp hd => ?_, fun j e k t he hr ht => ?_⟩, he, hc.1, hnd⟩
  · obtain ⟨h1, h2, h3⟩ := h.cand p (by simp [hp])
    exact ⟨h1, hm p hp, h3⟩
  · rcases h.cov i hi hf with h1 | h1
    · exact .inl (by simp [h1])
    · rcases List.mem_cons.1 h1 with h1 | h1
      · subst h1
        exact .inl (by simp)
      · exact .inr h1
  · rcases List.mem_cons.1 hi with rfl | hi
    · exact ⟨hc.1, by omega⟩
    · obtain ⟨h1, h2⟩ := h.exp i hi
      exact ⟨h1, Int.le_trans h2 hc.2.1⟩
  · rcases List.mem_cons.1 hd with hd | hd
    · have h1 := hm p hp
      have h2 : p ≠ m := fun e => by
        subst e
        exact (List.nodup_cons.1 h.dist).1 hp
      have h3 : p.cost ≠ m.cost := fun e => h2 (by cases p; cases m; simp_all)
      rw [hd, he]
      omega
    · exact h.fresh p (by simp [hp]) hd
  · obtain ⟨h1, h2⟩ := h.rel j e k t he hr ht
    exact ⟨by simp [h1], h2⟩
theorem OI.no {E : List Ed} {n : Nat} {inn : Nat → Int} {root : Nat} {out : Nat → Int} {S : List O2} {D : List Nat} {last : Int} {R : Nat → Nat → Prop} (h : OI E n inn root out S D last R) {j k t : Nat} {e : Ed} (he : E[j]? = some e) (hd : e.head ∈ D) (ht : e.tails[k]? = some t) (hl : ¬ oc inn e (out e.head) k < out t) : OI E n inn root out S D last (fun a b => R a b ∨ a = j ∧ b = k) := by
  refine ⟨h.ro, h.cand, h.cov, h.exp, h.nd, h.dist, h.fresh, fun j' e' k' t' he' hr ht' => ?_⟩
  rcases hr with hr | ⟨rfl, rfl⟩
  · exact h.rel j' e' k' t' he' hr ht'
  · rw [he] at he'
    cases he'
    rw [ht] at ht'
    cases ht'
    exact ⟨hd, Int.not_lt.1 hl⟩
theorem OI.yes {E : List Ed} {n : Nat} (hE : ∀ e ∈ E, OkE n e) {inn : Nat → Int} (hin : ∀ i, i < n → 0 ≤ inn i) {root : Nat} {out : Nat → Int} {S : List O2} {D : List Nat} {last : Int} {R : Nat → Nat → Prop} (h : OI E n inn root out S D last R) {j k t : Nat} {e : Ed} (he : E[j]? = some e) (hd : e.head ∈ D) (hx : out e.head = last) (ht : e.tails[k]? = some t) (hl : oc inn e (out e.head) k < out t) :
    OI E n inn root (upd out t (oc inn e (out e.head) k)) (⟨oc inn e (out e.head) k, t⟩ :: S) D last (fun a b => R a b ∨ a = j ∧ b = k) ∧ t ∉ D := by
  have hem := List.mem_of_getElem? he
  have htn := (hE e hem).2.1 t (List.mem_of_getElem? ht)
  have h0 := h.ro.ok e.head (hE e hem).1
  obtain ⟨h1, h2⟩ := oc_nn (hE e hem) hin h0.1 k
  have h3 := (h.ro.ok t htn).2
  have hlt : oc inn e (out e.head) k < INF := Int.lt_of_lt_of_le hl h3
  have h4 := h2 hlt
  have htD : t ∉ D := fun hm => by
    have := (h.exp t hm).2
    exact absurd hl (Int.not_lt.2 (Int.le_trans this (by rw [← hx]; exact h4.1)))
  have hne : ∀ i ∈ D, i ≠ t := fun i hi e => htD (e ▸ hi)
  refine ⟨⟨h.ro.step hE hin hem ht hl, fun p hp => ?_, fun i hi hf => ?_, fun i hi => ?_, h.nd, List.nodup_cons.2 ⟨fun hp => ?_, h.dist⟩, fun p hp hpd => ?_, fun j' e' k' t' he' hr ht' => ?_⟩, htD⟩
  · rcases List.mem_cons.1 hp with rfl | hp
    · refine ⟨htn, (show last ≤ oc inn e (out e.head) k by rw [← hx]; exact h4.1), hlt, ?_⟩
      show upd _ t _ t ≤ _
      rw [upd_self]
      exact Int.le_refl _
    · obtain ⟨k1, k2, k3, k4⟩ := h.cand p hp
      refine ⟨k1, k2, k3, ?_⟩
      by_cases h5 : p.node = t
      · rw [h5] at k4 ⊢
        rw [upd_self]
        exact Int.le_of_lt (Int.lt_of_lt_of_le hl k4)
      · rw [upd_ne _ _ h5]
        exact k4
  · by_cases h5 : i = t
    · subst h5
      rw [upd_self]
      exact .inr (by simp)
    · rw [upd_ne _ _ h5] at hf ⊢
      rcases h.cov i hi hf with h6 | h6
      · exact .inl h6
      · exact .inr (by simp [h6])
  · rw [upd_ne _ _ (hne i hi)]
    exact h.exp i hi
  · have := (h.cand _ hp).2.2.2
    have h6 : out t ≤ oc inn e (out e.head) k := this
    omega
  · rcases List.mem_cons.1 hp with rfl | hp
    · exact absurd hpd htD
    · rw [upd_ne _ _ (hne _ hpd)]
      exact h.fresh p hp hpd
  · have key : e'.head ∈ D ∧ out t' ≤ oc inn e' (out e'.head) k' ∨ j' = j ∧ k' = k := by
      rcases hr with hr | hr
      · exact .inl (h.rel j' e' k' t' he' hr ht')
      · exact .inr hr
    rcases key with ⟨k1, k2⟩ | ⟨rfl, rfl⟩
    · refine ⟨k1, ?_⟩
      rw [upd_ne _ _ (hne _ k1)]
      by_cases h5 : t' = t
      · subst h5
        rw [upd_self]
        omega
      · rw [upd_ne _ _ h5]
        exact k2
    · rw [he] at he'
      cases he'
      rw [ht] at ht'
      cases ht'
      refine ⟨hd, ?_⟩
      rw [upd_ne _ _ (hne _ hd), upd_self]
      exact Int.le_refl _
theorem OI.done {E : List Ed} {n : Nat} (hE : ∀ e ∈ E, OkE n e) {inn : Nat → Int} (hin : ∀ i, i < n → 0 ≤ inn i) {root : Nat} {out : Nat → Int} {D : List Nat} {last : Int} {R : Nat → Nat → Prop} (h : OI E n inn root out [] D last R) (hR : ∀ (j : Nat) e (k : Nat), E[j]? = some e → e.head ∈ D → k < e.tails.length → R j k) : OSol E n inn root out := by
  refine ⟨h.ro.ok, h.ro.rt, fun e he k t ht => ?_, h.ro.path⟩
  obtain ⟨j, hj⟩ := List.getElem?_of_mem he
  by_cases hf : out e.head < INF
  · rcases h.cov e.head (hE e he).1 hf with hd | hd
    · exact (h.rel j e k t hj (hR j e k hj hd (List.getElem?_eq_some_iff.1 ht).1) ht).2
    · cases hd
  · have h1 := (h.ro.ok t ((hE e he).2.1 t (List.mem_of_getElem? ht))).2
    have h2 := oth_nn (inn := inn) (k : Int) e.tails 0 (fun t ht => hin t ((hE e he).2.1 t ht))
    have h3 := (hE e he).2.2.1
    unfold oc
    omega
theorem OI.count {E : List Ed} {n : Nat} {inn : Nat → Int} {root : Nat} {out : Nat → Int} {S : List O2} {D : List Nat} {last : Int} {R : Nat → Nat → Prop} (h : OI E n inn root out S D last R) : D.length ≤ n := nodup_le n D h.nd (fun k hk => (h.exp k hk).1)
end Go.Proofs.Ytepfbhigeghjjaa.K
namespace Go.Proofs.Ytepfbhigeghjjaa.K
set_option linter.unusedVariables false
set_option linter.unusedSimpArgs false
def E33 : List Ed := [⟨0, [1, 2], 1⟩, ⟨1, [], 2⟩, ⟨2, [], 3⟩, ⟨0, [2], 9⟩]
def v33 (i : Nat) : V := if i = 0 then (6, 3) else if i = 1 then (2, 1) else (3, 1)
def o33 (i : Nat) : Int := if i = 0 then 0 else if i = 1 then 4 else 3
theorem ok33 : ∀ e ∈ E33, OkE 3 e := by
  intro e he
  simp only [E33, List.mem_cons, List.not_mem_nil, or_false] at he
  rcases he with rfl | rfl | rfl | rfl <;> (unfold OkE; simp; try decide)
theorem der33_1 : Der E33 1 (2, 1) := Der.mk (E := E33) ⟨1, [], 2⟩ (by simp [E33]) (fun _ => (0, 0)) (fun t ht => by cases ht)
theorem der33_2 : Der E33 2 (3, 1) := Der.mk (E := E33) ⟨2, [], 3⟩ (by simp [E33]) (fun _ => (0, 0)) (fun t ht => by cases ht)
theorem der33_0 : Der E33 0 (6, 3) := Der.mk (E := E33) ⟨0, [1, 2], 1⟩ (by simp [E33]) v33 (fun t ht => by
  simp only [List.mem_cons, List.not_mem_nil, or_false] at ht
  rcases ht with rfl | rfl
  · exact der33_1
  · exact der33_2)
theorem three {i : Nat} (h : i < 3) : i = 0 ∨ i = 1 ∨ i = 2 := by omega
theorem fix33 : Fix E33 3 v33 := by
  refine ⟨fun i hi => ?_, fun e he => ?_, fun i hi _ => ?_, fun i hi h => ?_⟩
  · rcases three hi with rfl | rfl | rfl <;> (unfold OkV; decide)
  · simp only [E33, List.mem_cons, List.not_mem_nil, or_false] at he
    rcases he with rfl | rfl | rfl | rfl <;> decide
  · rcases three hi with rfl | rfl | rfl
    · exact der33_0
    · exact der33_1
    · exact der33_2
  · refine absurd ?_ h
    rcases three hi with rfl | rfl | rfl <;> decide
theorem osol33 : OSol E33 3 (fun i => (v33 i).1) 0 o33 := by
  refine ⟨fun i hi => ?_, rfl, fun e he k t ht => ?_, fun i hi _ => ?_⟩
  · rcases three hi with rfl | rfl | rfl <;> decide
  · simp only [E33, List.mem_cons, List.not_mem_nil, or_false] at he
    rcases he with rfl | rfl | rfl | rfl
    · have hk : k < 2 := (List.getElem?_eq_some_iff.1 ht).1
      have : k = 0 ∨ k = 1 := by omega
      rcases this with rfl | rfl <;> (cases ht; decide)
    · cases ht
    · cases ht
    · have hk : k < 1 := (List.getElem?_eq_some_iff.1 ht).1
      obtain rfl : k = 0 := by omega
      cases ht
      decide
  · rcases three hi with rfl | rfl | rfl
    · exact .root
    · exact Path.step (E := E33) (inn := fun i => (v33 i).1) (root := 0) ⟨0, [1, 2], 1⟩ 0 .root (by simp [E33]) 0 1 rfl
    · exact Path.step (E := E33) (inn := fun i => (v33 i).1) (root := 0) ⟨0, [1, 2], 1⟩ 0 .root (by simp [E33]) 1 2 rfl
theorem ex33 {v : Nat → V} {f out : Nat → Int} (h : Sol E33 3 v f) (k : OSol E33 3 (fun i => (v i).1) 0 out) : (v 0 = (6, 3) ∧ v 1 = (2, 1) ∧ v 2 = (3, 1)) ∧ out 0 = 0 ∧ out 1 = 4 ∧ out 2 = 3 := by
  have hv : ∀ i, i < 3 → v i = v33 i := fun i hi => h.fix.unique ok33 fix33 i hi
  have ho : ∀ i, i < 3 → out i = o33 i := fun i hi => (k.congr ok33 (inn' := fun i => (v33 i).1) (fun i hi => by show (v i).1 = (v33 i).1; rw [hv i hi])).unique osol33 i hi
  exact ⟨⟨hv 0 (by decide), hv 1 (by decide), hv 2 (by decide)⟩, ho 0 (by decide), ho 1 (by decide), ho 2 (by decide)⟩
end Go.Proofs.Ytepfbhigeghjjaa.K
