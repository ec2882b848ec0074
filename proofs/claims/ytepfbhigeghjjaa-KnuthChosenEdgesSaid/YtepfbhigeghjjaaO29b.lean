/- A value as an argument, opened. -/
import Derived.Test.YtepfbhigeghjjaaO29
namespace Go.Proofs.Ytepfbhigeghjjaa.Q.O29
open Go.ChangeShapes Go.WideShapes Go.Deep Go.RowKit
set_option linter.unusedVariables false
set_option linter.unusedSimpArgs false
set_option maxRecDepth 100000 in
theorem open_value {H : Type} {enc : TypeId × Value → H} {W : World} {r : Reach} {base : Nat} {v : Value} {d : DataW H} {p : List MemPlace} (hok : Value.okWide Try.prog W r base 54 v) (h : DataW.Trod enc Try.prog W 0 (fun _ => true) true 54 v d p) : ∃ a b : Int, v = .agg #[.int .i64 a, .int .i64 b] := by
  obtain ⟨cs, rfl, hs⟩ := okWide_struct Try.underlying54 hok
  obtain ⟨fuel, hf⟩ := h
  obtain ⟨y, hy⟩ := open_V (show DataW.trod enc Try.prog W 0 (fun _ => true) true fuel 54 cs.toList = some _ from hf)
  refine ⟨y.1, y.2, ?_⟩
  have : cs = (encV y).toArray := by rw [← hy]
  rw [this]
  rfl
end Go.Proofs.Ytepfbhigeghjjaa.Q.O29
