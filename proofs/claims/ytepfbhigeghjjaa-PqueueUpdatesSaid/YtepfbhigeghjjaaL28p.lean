/- The laws of chapter 28: the plain part. -/
import Derived.Test.YtepfbhigeghjjaaQEi
import Derived.Test.YtepfbhigeghjjaaQ5
namespace Go.Proofs.Ytepfbhigeghjjaa.Q
open Go.RowKit
set_option linter.unusedVariables false
set_option linter.unusedSimpArgs false
/-- The entry of the j-th key. -/
def ent (ks : List Int) (j : Nat) : En E28 := ⟨⟨ks.getD j 0, j⟩, j, j⟩
/-- The entries of the first n keys. -/
def entsL (ks : List Int) : Nat → List (En E28)
  | 0 => []
  | n + 1 => ent ks n :: entsL ks n
theorem mem_entsL {ks : List Int} {n : Nat} {e : En E28} : e ∈ entsL ks n ↔ ∃ j, j < n ∧ e = ent ks j := by
  induction n with
  | zero => simp [entsL]
  | succ n ih =>
    simp only [entsL, List.mem_cons, ih]
    constructor
    · rintro (h | ⟨j, hj, h⟩)
      · exact ⟨n, by omega, h⟩
      · exact ⟨j, by omega, h⟩
    · rintro ⟨j, hj, h⟩
      by_cases hjn : j = n
      · subst hjn; exact .inl h
      · exact .inr ⟨j, by omega, h⟩
theorem entsL_length (ks : List Int) (n : Nat) : (entsL ks n).length = n := by
  induction n with
  | zero => rfl
  | succ n ih => simp [entsL, ih]
theorem entsL_h {ks : List Int} {n : Nat} {e : En E28} (h : e ∈ entsL ks n) : e.h ≠ (n : Int) := by
  obtain ⟨j, hj, rfl⟩ := mem_entsL.1 h
  show (j : Int) ≠ n
  omega
theorem entsL_nodup (ks : List Int) (n : Nat) : ((entsL ks n).map (·.h)).Nodup := by
  induction n with
  | zero => simp [entsL]
  | succ n ih =>
    simp only [entsL, List.map_cons, List.nodup_cons]
    refine ⟨fun h => ?_, ih⟩
    obtain ⟨e, he, hh⟩ := List.mem_map.1 h
    exact entsL_h he hh
/-- What holds behind i pops. -/
structure SortsInv (ks : List Int) (w wr : World) (g sb lb i : Nat) (rest : List (En E28)) (lk li : Int) : Prop where
  q : QA 90 92 lessE w.heap.size wr g rest ks.length ks.length
  below : Below w.heap.size w wr
  seen : ∃ sv : Array Value, wr.heap[sb]? = some (.cells sv 4 (0, 0)) ∧ sv.size = ks.length ∧ ∀ j, j < ks.length → ent ks j ∈ rest → sv[j]? = some (.bool false)
  last : wr.heap[lb]? = some (.cells #[.int .i64 lk, .int .i64 li] 27 (0, 0))
  len : rest.length = ks.length - i
  nd : (rest.map (·.h)).Nodup
  ent : ∀ e ∈ rest, ∃ j, j < ks.length ∧ e = ent ks j
  ord : 0 < i → ∀ e ∈ rest, ¬ e.x.key < lk ∧ (e.x.key = lk → ¬ e.x.id < li)
end Go.Proofs.Ytepfbhigeghjjaa.Q
