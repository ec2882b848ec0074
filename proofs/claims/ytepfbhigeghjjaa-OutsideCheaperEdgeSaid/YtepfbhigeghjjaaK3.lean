/- The example of chapter 29: its least values and chosen hyperedges. Replacing a value by a smaller one. Plain. -/
import Derived.Test.YtepfbhigeghjjaaK2
namespace Go.Proofs.Ytepfbhigeghjjaa.K
set_option linter.unusedVariables false
set_option linter.unusedSimpArgs false
instance (a b : V) : Decidable (leV a b) := by unfold leV; infer_instance
def E29 : List Ed := [⟨0, [], 5⟩, ⟨1, [0, 0], 1⟩, ⟨0, [1], 0⟩, ⟨1, [], 2⟩]
def v29 (i : Nat) : V := if i = 0 then (2, 2) else (2, 1)
def f29 (i : Nat) : Int := if i = 0 then 2 else 3
theorem ok29 : ∀ e ∈ E29, OkE 2 e := by
  intro e he
  simp only [E29, List.mem_cons, List.not_mem_nil, or_false] at he
  rcases he with rfl | rfl | rfl | rfl <;> (unfold OkE; simp; try decide)
theorem der29_1 : Der E29 1 (2, 1) := Der.mk (E := E29) ⟨1, [], 2⟩ (by simp [E29]) (fun _ => (0, 0)) (fun t ht => by cases ht)
theorem der29_0 : Der E29 0 (2, 2) := Der.mk (E := E29) ⟨0, [1], 0⟩ (by simp [E29]) (fun _ => (2, 1)) (fun t ht => by simp at ht; subst ht; exact der29_1)
theorem fix29 : Fix E29 2 v29 := by
  refine ⟨fun i hi => ?_, fun e he => ?_, fun i hi _ => ?_, fun i hi h => ?_⟩
  · unfold v29 OkV; split <;> decide
  · simp only [E29, List.mem_cons, List.not_mem_nil, or_false] at he
    rcases he with rfl | rfl | rfl | rfl <;> decide
  · rcases Nat.lt_or_ge i 1 with h | h
    · obtain rfl : i = 0 := by omega
      exact der29_0
    · obtain rfl : i = 1 := by omega
      exact der29_1
  · refine absurd ?_ h
    unfold v29
    split <;> decide
theorem cho29 : Chosen E29 2 v29 f29 := by
  have hno : ∀ i k, i < 2 → k < (f29 i).toNat → ¬ Att E29 v29 i k := by
    rintro i k hi hk ⟨e, h1, h2, h3, h4⟩
    have : k < 4 := (List.getElem?_eq_some_iff.1 h1).1
    rcases Nat.lt_or_ge i 1 with h | h
    · obtain rfl : i = 0 := by omega
      have hk2 : k < 2 := hk
      rcases Nat.lt_or_ge k 1 with h5 | h5
      · obtain rfl : k = 0 := by omega
        cases h1
        exact absurd h4 (by decide)
      · obtain rfl : k = 1 := by omega
        cases h1
        exact absurd h2 (by decide)
    · obtain rfl : i = 1 := by omega
      have hk2 : k < 3 := hk
      rcases Nat.lt_or_ge k 1 with h5 | h5
      · obtain rfl : k = 0 := by omega
        cases h1
        exact absurd h2 (by decide)
      · rcases Nat.lt_or_ge k 2 with h6 | h6
        · obtain rfl : k = 1 := by omega
          cases h1
          exact absurd h4 (by decide)
        · obtain rfl : k = 2 := by omega
          cases h1
          exact absurd h2 (by decide)
  constructor
  · intro i hi h
    unfold f29 at h
    split at h <;> cases h
  · intro i hi _
    rcases Nat.lt_or_ge i 1 with h | h
    · obtain rfl : i = 0 := by omega
      exact ⟨2, rfl, ⟨_, rfl, rfl, by decide, by decide⟩, fun j hj => hno 0 j hi hj⟩
    · obtain rfl : i = 1 := by omega
      exact ⟨3, rfl, ⟨_, rfl, rfl, by decide, by decide⟩, fun j hj => hno 1 j hi hj⟩
theorem sol29 {v : Nat → V} {f : Nat → Int} (h : Sol E29 2 v f) : v 0 = (2, 2) ∧ v 1 = (2, 1) ∧ f 0 = 2 ∧ f 1 = 3 := by
  have h0 := h.unique ok29 ⟨fix29, cho29⟩ 0 (by decide)
  have h1 := h.unique ok29 ⟨fix29, cho29⟩ 1 (by decide)
  exact ⟨h0.1, h1.1, h0.2, h1.2⟩
/-- One of the combined values made smaller. -/
theorem combV_set {cost : Int} {l : List V} {i : Nat} {a b : V} (hc : cost ≤ INF) (h : ∀ x ∈ l, OkV x) (hb : OkV b) (hi : l[i]? = some a) (hab : leV b a) : leV (combV cost (l.set i b)) (combV cost l) := by
  refine combV_mono hc (by simp) ?_ h ?_
  · intro x hx
    rcases List.mem_or_eq_of_mem_set hx with hx | rfl
    · exact h x hx
    · exact hb
  · intro j x y hx hy
    rw [List.getElem?_set] at hx
    split at hx
    · rename_i hij
      subst hij
      split at hx
      · cases hx
        rw [hi] at hy
        cases hy
        exact hab
      · cases hx
    · rw [hx] at hy
      cases hy
      exact leV_refl _
end Go.Proofs.Ytepfbhigeghjjaa.K
