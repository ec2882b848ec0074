/- The queue at K.K3: New, and what only looks. -/
import Derived.Test.YtepfbhigeghjjaaQKi
import Derived.Test.YtepfbhigeghjjaaQ4
namespace Go.Proofs.Ytepfbhigeghjjaa.Q
open Go.RowKit Go.Proofs.YtepfbhigeghjjaaW.PrintLast
set_option linter.unusedVariables false
set_option linter.unusedSimpArgs false

/-! ### New -/
set_option maxHeartbeats 1000000 in
theorem new_K {B : Nat} (w : World) (hB : B ≤ w.heap.size) : Calls Try.prog 77 #[lessK] w (NewPost (α := K.K3) 131 135 lessK B w) := by
  have hmm := @run_makeMap Try.prog
  have HB := Lib.hid hB
  clear hB
  show Calls Try.prog 77 #[.func (.func 78) #[] #[]] w _
  go_enter Try.func77, Try.ntmps77
  go_wp2
  go_ret
  have h1 := two_alloc w (.map #[] 0) (.cells #[.func (.func 78) #[] #[], .slice none 0 0, .map (some w.heap.size), .int .i64 0, .int .i64 0] 131)
  refine ⟨w.heap.size + 1, w.heap.size, rfl, ⟨h1.2, Nat.le_succ_of_le HB.out, HB.out, ⟨by simp [flat], .inl ⟨rfl, rfl⟩⟩, ⟨[], 0, ⟨h1.1, by simp, by simp, by simp⟩, fun k => rfl⟩, by simp⟩, ((Below.refl _ _).alloc (Nat.le_refl _) _).alloc (by simp) _, Nat.le_succ _, Nat.le_refl _⟩
end Go.Proofs.Ytepfbhigeghjjaa.Q
