/- What Solve has given, kept: header, values, chosen hyperedges. -/
import Derived.Test.YtepfbhigeghjjaaKRc
import Derived.Test.YtepfbhigeghjjaaKA
import Derived.Test.YtepfbhigeghjjaaL29v
namespace Go.Proofs.Ytepfbhigeghjjaa.Q
open Go.RowKit Go.Proofs.YtepfbhigeghjjaaW.PrintLast
set_option linter.unusedVariables false
set_option linter.unusedSimpArgs false
def intRow (f : Nat → Int) (i : Nat) : Value := .int .i64 (f i)
structure VSt (w wr : World) (hb m len cap : Nat) (A : Option Addr) (bv be : Nat) (v : Nat → K.V) (f : Nat → Int) : Prop where
  below : Below w.heap.size w wr
  hdr : HBZ wr hb m len cap A
  vals : ValsAt wr bv m v
  edg : wr.rowIs be 3 m (intRow f)
theorem VSt.bel {w wr W : World} {hb m len cap : Nat} {A : Option Addr} {bv be : Nat} {v : Nat → K.V} {f : Nat → Int} (h : VSt w wr hb m len cap A bv be v f) (hb' : Below wr.heap.size wr W) : VSt w W hb m len cap A bv be v f :=
  ⟨h.below.trans (hb'.mono h.below.size), h.hdr.bel hb', h.vals.bel hb', row_below h.edg hb'⟩
theorem VSt.v1 {w wr : World} {hb m len cap : Nat} {A : Option Addr} {bv be : Nat} {v : Nat → K.V} {f : Nat → Int} (h : VSt w wr hb m len cap A bv be v f) {i : Nat} (hi : i < m) {a b : Int} (hv : v i = (a, b)) : wr.cell? ⟨bv, i * 2, none⟩ = some (.int .i64 a) ∧ wr.cell? ⟨bv, i * 2 + 1, none⟩ = some (.int .i64 b) := by
  have h1 := h.vals.at_ i hi
  rw [hv] at h1
  exact ⟨h1 0 _ rfl, h1 1 _ rfl⟩
end Go.Proofs.Ytepfbhigeghjjaa.Q
