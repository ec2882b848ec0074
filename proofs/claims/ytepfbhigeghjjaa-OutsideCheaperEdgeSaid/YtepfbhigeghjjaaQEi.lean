/- The queue at E28: what its entries are, how they are compared. -/
import Derived.Test.YtepfbhigeghjjaaProg
import Derived.Test.YtepfbhigeghjjaaQ3
import Derived.Test.YtepfbhigeghjjaaWLast
import Derived.Below
import Derived.Deep.Draws
import Derived.Deep.AppendLies
import Derived.Maps.AppendAt
import Derived.OwnWalk
import Derived.Laws.BytesArg
import Derived.Laws.MakeOwn
import Derived.Laws.OwnMore
import Derived.Deep.OwnRows
import Derived.Tactics
import Derived.Lib.ConvBytes
import Derived.Laws.Slices
import Derived.RowKit3
import Derived.WideLaws
import Derived.Deep.DeepCutAuto
import Derived.Deep.CutBlock
import Derived.Deep.RegionHeld3
import Derived.Laws.Rows
import Derived.Lib.AppendStr
import Derived.ArgAppend
import Derived.Laws.IdiomCopy
import Derived.RowKit
import Derived.WalkKit
import Derived.KernelRfl
import Derived.Deep.LoopGhost
import Derived.Deep.QuietTactic
import Derived.BigQuiet
import Derived.Lib.Hide
namespace Go.Proofs.Ytepfbhigeghjjaa.Q
open Go.RowKit Go.Proofs.YtepfbhigeghjjaaW.PrintLast
set_option linter.unusedVariables false
set_option linter.unusedSimpArgs false

structure E28 where
  key : Int
  id : Int
instance : Cells E28 := ⟨2, fun x => [.int .i64 x.key, .int .i64 x.id], fun _ => rfl, fun x v hv => by simp at hv; rcases hv with rfl | rfl <;> rfl⟩
def lessE : Value := .func (.func 27) #[] #[]
theorem zero3 (W : World) : (zeroValue 3).run Try.prog W = .ok (.int .i64 0) W := by kernel_rfl
instance : Lt E28 := ⟨fun x => x.key, fun _ => 0⟩

theorem lessf_E (x y : E28) (w : World) : Calls Try.prog 27 #[.agg (Cells.cs x).toArray, .agg (Cells.cs y).toArray] w fun e w' => e = .returned (.bool (Lt.lt x y)) ∧ Below w.heap.size w w' := by
  obtain ⟨k1, i1⟩ := x
  obtain ⟨k2, i2⟩ := y
  have hl : Lt.lt (⟨k1, i1⟩ : E28) ⟨k2, i2⟩ = decide (k1 < k2) := by
    show decide (k1 < k2 ∨ k1 = k2 ∧ (0 : Int) < 0) = _
    exact decide_eq_decide.2 (by omega)
  rw [hl]
  clear hl
  show Calls Try.prog 27 #[.agg #[.int .i64 k1, .int .i64 i1], .agg #[.int .i64 k2, .int .i64 i2]] w fun e w' => e = .returned (.bool (decide (k1 < k2))) ∧ Below w.heap.size w w'
  go_enter Try.func27, Try.ntmps27
  go_wp2
  go_ret
  exact ⟨rfl, ((Below.refl _ _).alloc (Nat.le_refl _) _).alloc (by simp) _⟩
end Go.Proofs.Ytepfbhigeghjjaa.Q
