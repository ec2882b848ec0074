/- The queue at K.K3: what its entries are, how they are compared. -/
import Derived.Test.YtepfbhigeghjjaaQEi
import Derived.Test.YtepfbhigeghjjaaK1
import Derived.Test.YtepfbhigeghjjaaProg
import Derived.Test.YtepfbhigeghjjaaQ3
import Derived.Test.YtepfbhigeghjjaaWLast
import Derived.Below
import Derived.Deep.Draws
import Derived.Deep.AppendLies
import Derived.Maps.AppendAt
import Derived.OwnWalk
import Derived.Laws.BytesArg
import Derived.Laws.MakeOwn
import Derived.Laws.OwnMore
import Derived.Deep.OwnRows
import Derived.Tactics
import Derived.Lib.ConvBytes
import Derived.Laws.Slices
import Derived.RowKit3
import Derived.WideLaws
import Derived.Deep.DeepCutAuto
import Derived.Deep.CutBlock
import Derived.Deep.RegionHeld3
import Derived.Laws.Rows
import Derived.Lib.AppendStr
import Derived.ArgAppend
import Derived.Laws.IdiomCopy
import Derived.RowKit
import Derived.WalkKit
import Derived.KernelRfl
import Derived.Deep.LoopGhost
import Derived.Deep.QuietTactic
import Derived.BigQuiet
import Derived.Lib.Hide
namespace Go.Proofs.Ytepfbhigeghjjaa.Q
open Go.RowKit Go.Proofs.YtepfbhigeghjjaaW.PrintLast
set_option linter.unusedVariables false
set_option linter.unusedSimpArgs false

instance : Cells K.K3 := ⟨3, fun x => [.int .i64 x.node, .int .i64 x.c, .int .i64 x.s], fun _ => rfl, fun x v hv => by simp at hv; rcases hv with rfl | rfl | rfl <;> rfl⟩
def lessK : Value := .func (.func 78) #[] #[]
instance : Lt K.K3 := ⟨fun x => x.c, fun x => x.s⟩

/-- Less, on values. -/
theorem less42 (a b c d : Int) (w : World) : Calls Try.prog 42 #[.agg #[.int .i64 a, .int .i64 b], .agg #[.int .i64 c, .int .i64 d]] w fun e w' => e = .returned (.bool (decide (a < c ∨ a = c ∧ b < d))) ∧ Below w.heap.size w w' := by
  by_cases h1 : a < c
  · have e : (decide (a < c ∨ a = c ∧ b < d)) = true := decide_eq_true (.inl h1)
    rw [e]
    clear e
    go_enter Try.func42, Try.ntmps42
    go_wp2
    go_ret
    exact ⟨rfl, ((Below.refl _ _).alloc (Nat.le_refl _) _).alloc (by simp) _⟩
  · by_cases h2 : a = c
    · have e : (decide (a < c ∨ a = c ∧ b < d)) = decide (b < d) := decide_eq_decide.2 (by omega)
      rw [e]
      clear e
      have h3 : (a == c) = true := beq_iff_eq.2 h2
      clear h2
      go_enter Try.func42, Try.ntmps42
      go_wp2
      go_ret
      exact ⟨rfl, ((Below.refl _ _).alloc (Nat.le_refl _) _).alloc (by simp) _⟩
    · have e : (decide (a < c ∨ a = c ∧ b < d)) = false := decide_eq_false (by omega)
      rw [e]
      clear e
      have h3 : (a == c) = false := beq_eq_false_iff_ne.2 h2
      clear h2
      go_enter Try.func42, Try.ntmps42
      go_wp2
      go_ret
      exact ⟨rfl, ((Below.refl _ _).alloc (Nat.le_refl _) _).alloc (by simp) _⟩
theorem lessf_K (x y : K.K3) (w : World) : Calls Try.prog 78 #[.agg (Cells.cs x).toArray, .agg (Cells.cs y).toArray] w fun e w' => e = .returned (.bool (Lt.lt x y)) ∧ Below w.heap.size w w' := by
  obtain ⟨n1, c1, s1⟩ := x
  obtain ⟨n2, c2, s2⟩ := y
  have hl : Lt.lt (⟨n1, c1, s1⟩ : K.K3) ⟨n2, c2, s2⟩ = decide (c1 < c2 ∨ c1 = c2 ∧ s1 < s2) := rfl
  rw [hl]
  clear hl
  show Calls Try.prog 78 #[.agg #[.int .i64 n1, .int .i64 c1, .int .i64 s1], .agg #[.int .i64 n2, .int .i64 c2, .int .i64 s2]] w fun e w' => e = .returned (.bool (decide (c1 < c2 ∨ c1 = c2 ∧ s1 < s2))) ∧ Below w.heap.size w w'
  have CL := Lib.hid (less42 c1 s1 c2 s2)
  go_enter Try.func78, Try.ntmps78
  go_wp2_with fail
  with_reducible refine (CL.out _).mono ?_
  rintro r w3 ⟨rfl, hb⟩
  have HB := Lib.hid hb
  clear hb
  go_wp2_with fail
  go_ret
  refine ⟨congrArg Ending.returned (congrArg Value.bool ?_), (((Below.refl _ _).alloc (Nat.le_refl _) _).alloc (by simp) _).trans (HB.out.mono (by simp; omega))⟩
  simp
end Go.Proofs.Ytepfbhigeghjjaa.Q
