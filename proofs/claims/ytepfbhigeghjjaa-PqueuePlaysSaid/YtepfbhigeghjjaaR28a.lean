/- The reference queue of chapter 28 in memory. -/
import Derived.Test.YtepfbhigeghjjaaQEi
import Derived.Test.YtepfbhigeghjjaaQ5
namespace Go.Proofs.Ytepfbhigeghjjaa.Q
open Go.RowKit Go.Proofs.YtepfbhigeghjjaaW.PrintLast
set_option linter.unusedVariables false
set_option linter.unusedSimpArgs false
/-- A reference queue in block m: its row hv holds es. -/
structure IsR (B : Nat) (W : World) (m : Nat) (hv : Value) (es : List (En E28)) (nx ck : Int) : Prop where
  blk : W.heap[m]? = some (.cells #[hv, .int .i64 nx, .int .i64 ck] 41 (0, 0))
  mB : B ≤ m
  row : Row 98 B W hv es
theorem IsR.eff {B : Nat} {W W' : World} {m : Nat} {hv : Value} {es : List (En E28)} {nx ck : Int} {S : Nat → Prop} (h : IsR B W m hv es nx ck) (he : Eff S W W') (hn : ∀ k, (k = m ∨ hv.ownBlock = some k) → ¬ S k) : IsR B W' m hv es nx ck :=
  ⟨he.heap h.blk (hn m (.inl rfl)), h.mB, h.row.eff he (fun k hk => hn k (.inr hk))⟩
/-- What first tells. -/
def FirstPost (w : World) (es : List (En E28)) (r : Ending) (w' : World) : Prop :=
  ∃ i : Int, r = .returned (.int .i64 i) ∧ ((es = [] ∧ i = -1) ∨ ∃ (n : Nat) (e : En E28), i = n ∧ es[n]? = some e ∧ ∀ x ∈ es, bef x e = false) ∧ Below w.heap.size w w'
theorem lenR {B : Nat} {w : World} {m : Nat} {hv : Value} {es : List (En E28)} {nx ck : Int} (hq : IsR B w m hv es nx ck) :
    Calls Try.prog 37 #[.pointer (some ⟨m, 0, none⟩)] w fun r w' => r = .returned (.int .i64 es.length) ∧ w' = w := by
  obtain ⟨A, cap, hvA⟩ := Row.slice hq.row
  have c1 : w.cell? ⟨m, 0, none⟩ = some (.slice A es.length cap) := by rw [← hvA]; simp [World.cell?, hq.blk]
  clear hq hvA
  go_enter Try.func37, Try.ntmps37
  go_wp2_with fail
  go_ret
  exact ⟨rfl, rfl⟩
end Go.Proofs.Ytepfbhigeghjjaa.Q
