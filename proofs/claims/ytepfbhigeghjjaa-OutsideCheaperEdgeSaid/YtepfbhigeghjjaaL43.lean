/- KnuthLess: the first region. -/
import Derived.Test.YtepfbhigeghjjaaKA
import Derived.Test.YtepfbhigeghjjaaQR
namespace Go.Proofs.Ytepfbhigeghjjaa.Q
open Go.RowKit Go.Proofs.YtepfbhigeghjjaaW.PrintLast
set_option linter.unusedVariables false
set_option linter.unusedSimpArgs false

theorem less43 (a b c d : Int) (w : World) : Calls Try.prog 43 #[.agg #[.int .i64 a, .int .i64 b], .agg #[.int .i64 c, .int .i64 d]] w fun e w' => e = .returned (.bool (decide (a < c ∨ a = c ∧ b < d))) ∧ Below w.heap.size w w' := by
  by_cases h1 : a < c
  · have e : (decide (a < c ∨ a = c ∧ b < d)) = true := decide_eq_true (.inl h1)
    rw [e]
    clear e
    go_enter Try.func43, Try.ntmps43
    go_wp2
    go_ret
    exact ⟨rfl, ((Below.refl _ _).alloc (Nat.le_refl _) _).alloc (by simp) _⟩
  · by_cases h2 : a = c
    · have e : (decide (a < c ∨ a = c ∧ b < d)) = decide (b < d) := decide_eq_decide.2 (by omega)
      rw [e]
      clear e
      have h3 : (a == c) = true := beq_iff_eq.2 h2
      clear h2
      go_enter Try.func43, Try.ntmps43
      go_wp2
      go_ret
      exact ⟨rfl, ((Below.refl _ _).alloc (Nat.le_refl _) _).alloc (by simp) _⟩
    · have e : (decide (a < c ∨ a = c ∧ b < d)) = false := decide_eq_false (by omega)
      rw [e]
      clear e
      have h3 : (a == c) = false := beq_eq_false_iff_ne.2 h2
      clear h2
      go_enter Try.func43, Try.ntmps43
      go_wp2
      go_ret
      exact ⟨rfl, ((Below.refl _ _).alloc (Nat.le_refl _) _).alloc (by simp) _⟩
end Go.Proofs.Ytepfbhigeghjjaa.Q
