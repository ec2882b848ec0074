/- Knuth's algorithm as steps on settled nodes, their values and the candidates; what holds behind each step. Plain. -/
import Derived.Test.YtepfbhigeghjjaaK0
namespace Go.Proofs.Ytepfbhigeghjjaa.K
set_option linter.unusedVariables false
set_option linter.unusedSimpArgs false
/-- A candidate. -/
structure K3 where
  node : Nat
  c : Int
  s : Int
def K3.val (x : K3) : V := (x.c, x.s)
structure Inv (E : List Ed) (n : Nat) (st : Nat → Bool) (v : Nat → V) (S : List K3) (last : V) (D : List Nat) : Prop where
  ok : ∀ i, i < n → OkV (v i)
  uns : ∀ i, i < n → st i = false → v i = (INF, 0)
  set : ∀ i, i < n → st i = true → (v i).1 < INF ∧ Der E i (v i) ∧ leV (v i) last
  cand : ∀ x ∈ S, x.node < n ∧ OkV x.val ∧ x.c < INF ∧ Der E x.node x.val ∧ leV last x.val
  tl : ∀ k ∈ D, ∀ e, E[k]? = some e → ∀ t ∈ e.tails, st t = true
  off : ∀ k ∈ D, ∀ e, E[k]? = some e → (comb e v).1 < INF → (st e.head = true ∧ leV (v e.head) (comb e v)) ∨ ∃ x ∈ S, x.node = e.head ∧ x.val = comb e v
  nd : D.Nodup
  lt : ∀ k ∈ D, k < E.length
theorem Inv.start (E : List Ed) (n : Nat) : Inv E n (fun _ => false) (fun _ => (INF, 0)) [] (0, 0) [] :=
  ⟨(fun _ _ => by unfold OkV; decide), fun _ _ _ => rfl, (fun _ _ h => by cases h), (fun _ h => by cases h), (fun _ h => by cases h), (fun _ h => by cases h), List.nodup_nil, (fun _ h => by cases h)⟩
theorem Inv.perm {E : List Ed} {n : Nat} {st : Nat → Bool} {v : Nat → V} {S S' : List K3} {last : V} {D : List Nat} (h : Inv E n st v S last D) (hp : S.Perm S') : Inv E n st v S' last D :=
  ⟨h.ok, h.uns, h.set, fun x hx => h.cand x (hp.symm.subset hx), h.tl, fun k hk e he hf => (h.off k hk e he hf).imp id (fun ⟨x, hx, h1⟩ => ⟨x, hp.subset hx, h1⟩), h.nd, h.lt⟩
theorem nodup_le : ∀ (m : Nat) (D : List Nat), D.Nodup → (∀ k ∈ D, k < m) → D.length ≤ m
  | 0, D, _, h => by
    cases D with
    | nil => exact Nat.le_refl _
    | cons k D => exact absurd (h k (by simp)) (by omega)
  | m + 1, D, hn, h => by
    by_cases hm : m ∈ D
    · have h1 := nodup_le m (D.erase m) (hn.erase m) (fun k hk => by
        have h2 := h k (List.mem_of_mem_erase hk)
        have h3 : k ≠ m := fun e => by subst e; exact (hn.not_mem_erase) hk
        omega)
      rw [List.length_erase_of_mem hm] at h1
      omega
    · have h1 := nodup_le m D hn (fun k hk => by
        have h2 := h k hk
        have h3 : k ≠ m := fun e => hm (e ▸ hk)
        omega)
      omega
theorem Inv.count {E : List Ed} {n : Nat} {st : Nat → Bool} {v : Nat → V} {S : List K3} {last : V} {D : List Nat} (h : Inv E n st v S last D) : D.length ≤ E.length := nodup_le _ _ h.nd h.lt
/-- A candidate leaves; its node is settled already. -/
theorem Inv.skip {E : List Ed} {n : Nat} {st : Nat → Bool} {v : Nat → V} {R : List K3} {m : K3} {last : V} {D : List Nat} (h : Inv E n st v (m :: R) last D) (hm : ∀ x ∈ R, ¬ ltV x.val m.val) (hs : st m.node = true) : Inv E n st v R m.val D := by
  have hc := h.cand m (by simp)
  refine ⟨h.ok, h.uns, fun i hi hi' => ?_, fun x hx => ?_, h.tl, fun k hk e he hf => ?_, h.nd, h.lt⟩
  · obtain ⟨h1, h2, h3⟩ := h.set i hi hi'
    exact ⟨h1, h2, leV_trans h3 hc.2.2.2.2⟩
  · obtain ⟨h1, h2, h3, h4, h5⟩ := h.cand x (by simp [hx])
    exact ⟨h1, h2, h3, h4, hm x hx⟩
  · rcases h.off k hk e he hf with h1 | ⟨x, hx, h1, h2⟩
    · exact .inl h1
    · rcases List.mem_cons.1 hx with rfl | hx
      · refine .inl ⟨by rw [← h1]; exact hs, ?_⟩
        rw [← h2, ← h1]
        exact leV_trans (h.set _ hc.1 hs).2.2 hc.2.2.2.2
      · exact .inr ⟨x, hx, h1, h2⟩
def upd {α : Type} (f : Nat → α) (i : Nat) (a : α) : Nat → α := fun j => if j = i then a else f j
theorem upd_self {α : Type} (f : Nat → α) (i : Nat) (a : α) : upd f i a i = a := by simp [upd]
theorem upd_ne {α : Type} (f : Nat → α) {i j : Nat} (a : α) (h : j ≠ i) : upd f i a j = f j := by simp [upd, h]
/-- A candidate leaves and settles its node. -/
theorem Inv.settle {E : List Ed} {n : Nat} {st : Nat → Bool} {v : Nat → V} {R : List K3} {m : K3} {last : V} {D : List Nat} (h : Inv E n st v (m :: R) last D) (hm : ∀ x ∈ R, ¬ ltV x.val m.val) (hs : st m.node = false) : Inv E n (upd st m.node true) (upd v m.node m.val) R m.val D := by
  have hc := h.cand m (by simp)
  have same : ∀ k ∈ D, ∀ e, E[k]? = some e → comb e (upd v m.node m.val) = comb e v := by
    intro k hk e he
    refine comb_congr (fun t ht => upd_ne _ _ ?_)
    rintro rfl
    have := h.tl k hk e he _ ht
    rw [hs] at this
    cases this
  refine ⟨fun i hi => ?_, fun i hi hi' => ?_, fun i hi hi' => ?_, fun x hx => ?_, fun k hk e he t ht => ?_, fun k hk e he hf => ?_, h.nd, h.lt⟩
  · by_cases hi2 : i = m.node
    · subst hi2; rw [upd_self]; exact hc.2.1
    · rw [upd_ne _ _ hi2]; exact h.ok i hi
  · by_cases hi2 : i = m.node
    · subst hi2; rw [upd_self] at hi'; cases hi'
    · rw [upd_ne _ _ hi2] at hi' ⊢; exact h.uns i hi hi'
  · by_cases hi2 : i = m.node
    · subst hi2; rw [upd_self]; exact ⟨hc.2.2.1, hc.2.2.2.1, leV_refl _⟩
    · rw [upd_ne _ _ hi2] at hi' ⊢
      obtain ⟨h1, h2, h3⟩ := h.set i hi hi'
      exact ⟨h1, h2, leV_trans h3 hc.2.2.2.2⟩
  · obtain ⟨h1, h2, h3, h4, h5⟩ := h.cand x (by simp [hx])
    exact ⟨h1, h2, h3, h4, hm x hx⟩
  · have := h.tl k hk e he t ht
    unfold upd
    split
    · rfl
    · exact this
  · rw [same k hk e he] at hf ⊢
    rcases h.off k hk e he hf with ⟨h1, h2⟩ | ⟨x, hx, h1, h2⟩
    · have hne : e.head ≠ m.node := by rintro h3; rw [h3, hs] at h1; cases h1
      rw [upd_ne _ _ hne, upd_ne _ _ hne]
      exact .inl ⟨h1, h2⟩
    · rcases List.mem_cons.1 hx with rfl | hx
      · refine .inl ?_
        rw [← h1, upd_self, upd_self, h2]
        exact ⟨rfl, leV_refl _⟩
      · exact .inr ⟨x, hx, h1, h2⟩
/-- A hyperedge all of whose tails are settled: what it offers. -/
theorem Inv.offer {E : List Ed} {n : Nat} (hE : ∀ e ∈ E, OkE n e) {st : Nat → Bool} {v : Nat → V} {S : List K3} {last : V} {D : List Nat} (h : Inv E n st v S last D) {k : Nat} {e : Ed} (he : E[k]? = some e) (hk : k ∉ D) (ht : ∀ t ∈ e.tails, st t = true) (hl : (comb e v).1 < INF → leV last (comb e v)) :
    ((comb e v).1 < INF ∧ st e.head = false → Inv E n st v (⟨e.head, (comb e v).1, (comb e v).2⟩ :: S) last (k :: D)) ∧ (¬ ((comb e v).1 < INF ∧ st e.head = false) → Inv E n st v S last (k :: D)) := by
  have hem := List.mem_of_getElem? he
  have htl : ∀ k' ∈ k :: D, ∀ e', E[k']? = some e' → ∀ t ∈ e'.tails, st t = true := by
    intro k' hk' e' he'
    rcases List.mem_cons.1 hk' with rfl | hk'
    · rw [he] at he'; cases he'; exact ht
    · exact h.tl k' hk' e' he'
  have hnd : (k :: D).Nodup := List.nodup_cons.2 ⟨hk, h.nd⟩
  have hlt : ∀ k' ∈ k :: D, k' < E.length := by
    intro k' hk'
    rcases List.mem_cons.1 hk' with rfl | hk'
    · exact (List.getElem?_eq_some_iff.1 he).1
    · exact h.lt k' hk'
  constructor
  · rintro ⟨h1, h2⟩
    refine ⟨h.ok, h.uns, h.set, fun x hx => ?_, htl, fun k' hk' e' he' hf => ?_, hnd, hlt⟩
    · rcases List.mem_cons.1 hx with rfl | hx
      · refine ⟨(hE e hem).1, comb_ok (hE e hem) h.ok, h1, ?_, hl h1⟩
        exact Der.mk e hem v (fun t hx => (h.set t ((hE e hem).2.1 t hx) (ht t hx)).2.1)
      · exact h.cand x hx
    · rcases List.mem_cons.1 hk' with rfl | hk'
      · rw [he] at he'; cases he'
        exact .inr ⟨⟨e.head, (comb e v).1, (comb e v).2⟩, List.mem_cons_self, rfl, rfl⟩
      · exact (h.off k' hk' e' he' hf).imp id (fun ⟨x, hx, h1⟩ => ⟨x, by simp [hx], h1⟩)
  · intro hn
    refine ⟨h.ok, h.uns, h.set, h.cand, htl, fun k' hk' e' he' hf => ?_, hnd, hlt⟩
    rcases List.mem_cons.1 hk' with rfl | hk'
    · rw [he] at he'; cases he'
      cases hs : st e.head with
      | false => exact absurd ⟨hf, hs⟩ hn
      | true => exact .inl ⟨rfl, leV_trans (h.set _ (hE e hem).1 hs).2.2 (hl hf)⟩
    · exact h.off k' hk' e' he' hf
/-- Nothing is left: the values are the least ones. -/
theorem Inv.fix {E : List Ed} {n : Nat} (hE : ∀ e ∈ E, OkE n e) {st : Nat → Bool} {v : Nat → V} {last : V} {D : List Nat} (h : Inv E n st v [] last D) (hD : ∀ (k : Nat) e, E[k]? = some e → (∀ t ∈ e.tails, st t = true) → k ∈ D) : Fix E n v := by
  have hinf : ∀ i, i < n → ¬ (v i).1 < INF → v i = (INF, 0) := by
    intro i hi hv
    cases hs : st i with
    | false => exact h.uns i hi hs
    | true => exact absurd (h.set i hi hs).1 hv
  refine ⟨h.ok, fun e he => ?_, fun i hi hv => ?_, hinf⟩
  · by_cases hf : (comb e v).1 < INF
    · obtain ⟨k, hk⟩ := List.getElem?_of_mem he
      have hts : ∀ t ∈ e.tails, st t = true := by
        intro t ht
        cases hs : st t with
        | true => rfl
        | false =>
          have h1 := (combV_super (hE e he).2.2.1 (hE e he).2.2.2 (map_ok (hE e he) h.ok) hf (v t) (List.mem_map.2 ⟨t, ht, rfl⟩)).1
          rw [h.uns t ((hE e he).2.1 t ht) hs] at h1
          exact absurd h1 (by decide)
      rcases h.off k (hD k e hk hts) e hk hf with h1 | ⟨x, hx, _⟩
      · exact h1.2
      · cases hx
    · rw [show comb e v = (INF, 0) from combV_inf (hE e he).2.2.1 (hE e he).2.2.2 (map_ok (hE e he) h.ok) hf]
      exact le_inf (h.ok _ (hE e he).1) (hinf _ (hE e he).1)
  · cases hs : st i with
    | true => exact (h.set i hi hs).2.1
    | false => rw [h.uns i hi hs] at hv; exact absurd hv (by decide)
theorem Inv.settled {E : List Ed} {n : Nat} {st : Nat → Bool} {v : Nat → V} {S : List K3} {last : V} {D : List Nat} (h : Inv E n st v S last D) (i : Nat) (hi : i < n) : st i = true ↔ (v i).1 < INF := by
  constructor
  · intro hs; exact (h.set i hi hs).1
  · intro hv
    cases hs : st i with
    | true => rfl
    | false => rw [h.uns i hi hs] at hv; exact absurd hv (by decide)
/-! ### How many tails are open; where a node is used -/
def cnt (e : Ed) (st : Nat → Bool) : Nat := e.tails.countP (fun t => !st t)
def usesFrom (t : Nat) : List Ed → Nat → List Nat
  | [], _ => []
  | e :: es, k => (e.tails.filter (· == t)).map (fun _ => k) ++ usesFrom t es (k + 1)
def uses (E : List Ed) (t : Nat) : List Nat := usesFrom t E 0
theorem cnt_zero {e : Ed} {st : Nat → Bool} : cnt e st = 0 ↔ ∀ t ∈ e.tails, st t = true := by
  unfold cnt
  rw [List.countP_eq_zero]
  constructor
  · intro h t ht; simpa using h t ht
  · intro h t ht; simpa using h t ht
theorem cnt_start (e : Ed) : cnt e (fun _ => false) = e.tails.length := by
  unfold cnt
  rw [List.countP_eq_length]
  simp
theorem cnt_settle (e : Ed) {st : Nat → Bool} {i : Nat} (h : st i = false) : cnt e st = cnt e (upd st i true) + e.tails.count i := by
  unfold cnt
  induction e.tails with
  | nil => rfl
  | cons t l ih =>
    simp only [List.countP_cons, List.count_cons, ih]
    by_cases ht : t = i
    · subst ht
      simp [upd, h]
      omega
    · have h1 : (t == i) = false := by simpa using ht
      simp [upd, ht, h1]
      omega
theorem count_usesFrom (t k : Nat) : ∀ (es : List Ed) (j : Nat), (usesFrom t es j).count k = if j ≤ k then ((es[k - j]?).map fun e => e.tails.count t).getD 0 else 0
  | [], j => by simp [usesFrom]
  | e :: es, j => by
    simp only [usesFrom, List.count_append, count_usesFrom t k es (j + 1)]
    have h0 : ((e.tails.filter (· == t)).map (fun _ => j)).count k = if j = k then e.tails.count t else 0 := by
      induction e.tails with
      | nil => simp
      | cons x l ih =>
        by_cases hx : x = t
        · subst hx
          simp only [List.filter_cons, beq_self_eq_true, if_true, List.map_cons, List.count_cons, ih]
          by_cases hj : j = k
          · subst hj; simp
          · have : (j == k) = false := by simpa using hj
            simp [hj, this]
        · have h1 : (x == t) = false := by simpa using hx
          simp only [List.filter_cons, h1, List.count_cons]
          simpa using ih
    rw [h0]
    by_cases hj : j = k
    · subst hj
      simp
      omega
    · by_cases hk : j < k
      · rw [if_neg hj, if_pos (by omega : j + 1 ≤ k), if_pos (by omega : j ≤ k), show k - j = (k - (j + 1)) + 1 by omega]
        simp
      · rw [if_neg hj, if_neg (by omega), if_neg (by omega)]
theorem count_uses {E : List Ed} {t k : Nat} {e : Ed} (he : E[k]? = some e) : (uses E t).count k = e.tails.count t := by
  unfold uses
  rw [count_usesFrom]
  simp [he]
theorem mem_uses {E : List Ed} {t k : Nat} (h : k ∈ uses E t) : ∃ e, E[k]? = some e ∧ t ∈ e.tails := by
  have h1 := List.count_pos_iff.2 h
  unfold uses at h1
  rw [count_usesFrom] at h1
  simp only [Nat.zero_le, if_true, Nat.sub_zero] at h1
  cases he : E[k]? with
  | none => rw [he] at h1; simp at h1
  | some e =>
    rw [he] at h1
    simp at h1
    exact ⟨e, rfl, h1⟩
/-- The uses behind k hyperedges and j tails of the next one. -/
def usesTo (E : List Ed) (k j t : Nat) : List Nat := usesFrom t (E.take k) 0 ++ (((E.getD k ⟨0, [], 0⟩).tails.take j).filter (· == t)).map (fun _ => k)
theorem usesFrom_append (t : Nat) : ∀ (a b : List Ed) (j : Nat), usesFrom t (a ++ b) j = usesFrom t a j ++ usesFrom t b (j + a.length)
  | [], b, j => by simp [usesFrom]
  | e :: a, b, j => by
    simp only [List.cons_append, usesFrom, usesFrom_append t a b (j + 1), List.length_cons, List.append_assoc]
    rw [show j + 1 + a.length = j + (a.length + 1) by omega]
theorem usesTo_zero (E : List Ed) (t : Nat) : usesTo E 0 0 t = [] := by simp [usesTo, usesFrom]
theorem usesTo_tail {E : List Ed} {k j t x : Nat} {e : Ed} (he : E[k]? = some e) (hx : e.tails[j]? = some x) : usesTo E k (j + 1) t = if x = t then usesTo E k j t ++ [k] else usesTo E k j t := by
  have h0 : E.getD k ⟨0, [], 0⟩ = e := by simp [List.getD, he]
  unfold usesTo
  rw [h0, List.take_add_one, hx]
  simp only [Option.toList, List.filter_append, List.map_append, List.append_assoc]
  by_cases h : x = t
  · subst h; simp
  · have : (x == t) = false := by simpa using h
    simp [h, this]
theorem usesTo_next {E : List Ed} {k t : Nat} {e : Ed} (he : E[k]? = some e) : usesTo E k e.tails.length t = usesTo E (k + 1) 0 t := by
  have h0 : E.getD k ⟨0, [], 0⟩ = e := by simp [List.getD, he]
  have hk := (List.getElem?_eq_some_iff.1 he).1
  unfold usesTo
  rw [h0, List.take_add_one, he, usesFrom_append]
  simp only [Option.toList, usesFrom, List.take_length, List.append_nil, List.take_zero, List.filter_nil, List.map_nil, List.length_take]
  rw [show 0 + min k E.length = k by omega]
theorem usesTo_all (E : List Ed) (t : Nat) : usesTo E E.length 0 t = uses E t := by simp [usesTo, uses]
end Go.Proofs.Ytepfbhigeghjjaa.K
