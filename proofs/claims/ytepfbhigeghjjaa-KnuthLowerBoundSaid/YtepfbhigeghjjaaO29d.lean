/- Derivations in memory: trees of hyperedges; an argument of that kind, opened. -/
import Derived.Test.YtepfbhigeghjjaaO29x
namespace Go.Proofs.Ytepfbhigeghjjaa.Q
open Go.RowKit
set_option linter.unusedVariables false
set_option linter.unusedSimpArgs false
/-- Trees of at most the given depth: a hyperedge's number, and the kids (where their slice lies, its capacity). -/
def DT : Nat → Type
  | 0 => Empty
  | m + 1 => Int × Option Addr × Nat × List (DT m)
def encT : (m : Nat) → DT m → List Value
  | 0, t => t.elim
  | _ + 1, (e, A, c, ks) => [.int .i64 e, .slice A ks.length c]
def TIn (W : World) : (m : Nat) → DT m → Prop
  | 0, _ => True
  | m + 1, (_, A, _, ks) => ∀ (j : Nat) k, ks[j]? = some k → (∃ b o, A = some ⟨b, o, none⟩ ∧ W.rangeAt b (o + j * 2) (encT m k)) ∧ TIn W m k
theorem TIn.below {w W : World} (hb : Below w.heap.size w W) : ∀ (m : Nat) (t : DT m), TIn w m t → TIn W m t
  | 0, _, _ => trivial
  | m + 1, (_, A, _, ks), h => fun j k hk => by
    obtain ⟨⟨b, o, e, hr⟩, h2⟩ := h j k hk
    exact ⟨⟨b, o, e, fun q v hv => (hb.cell (World.block_lt_of_cell? w _ (hr q v hv))).trans (hr q v hv)⟩, TIn.below hb m k h2⟩
namespace O29
open Go.ChangeShapes Go.WideShapes Go.Deep Go.RowKit
theorem cells74 : Try.prog.cellsOf 74 = 2 := by kernel_rfl
theorem cells72 : Try.prog.cellsOf 72 = 1 := by kernel_rfl
theorem open_deriv {H : Type} {enc : TypeId × Value → H} {W : World} : ∀ (m fuel : Nat) (cs : List Value) (x : DataW H × List MemPlace), fuel ≤ 2 * m → DataW.trod enc Try.prog W 0 (fun _ => true) true fuel 74 cs = some x → ∃ t : DT m, cs = encT m t ∧ TIn W m t
  | 0, fuel, cs, x, hf, h => by
    obtain ⟨xs, n, hn, _⟩ := DataW.trod_struct Try.underlying74 h
    omega
  | m + 1, fuel, cs, x, hf, h => by
    obtain ⟨xs, n, rfl, _, hl, hlen, hx⟩ := DataW.trod_struct Try.underlying74 h
    rw [cells74] at hl
    obtain ⟨u, v, rfl⟩ := two_of hl
    have hlen : xs.length = 2 := hlen
    have h0 : DataW.trod enc Try.prog W 0 (fun _ => true) true n 3 (([u, v].drop 0).take (Try.prog.cellsOf 3)) = xs[0]? := hx 0 _ rfl
    have h1 : DataW.trod enc Try.prog W 0 (fun _ => true) true n 72 (([u, v].drop 1).take (Try.prog.cellsOf 72)) = xs[1]? := hx 1 _ rfl
    rw [List.getElem?_eq_getElem (by omega)] at h0 h1
    simp only [cells3, cells72, List.drop_zero, List.take_succ_cons, List.take_zero, List.drop_succ_cons] at h0 h1
    obtain ⟨a, ha, _⟩ := DataW.trod_int Try.underlying3 h0
    cases ha
    rcases DataW.trod_slice Try.underlying72 h1 with ⟨hcs, _⟩ | ⟨p, len, cap, elems, rest, n', hn, hcs, _, _, _, _, hel, hi, _, _⟩
    · cases hcs
      exact ⟨(a, none, 0, []), rfl, fun j k hk => by simp at hk⟩
    · cases hcs
      rw [cells74] at hi
      obtain ⟨ks, k1, k2⟩ := list_of_fn (p := fun j (k : DT m) => (∃ b oo, some p = some ⟨b, oo, none⟩ ∧ W.rangeAt b (oo + j * 2) (encT m k)) ∧ TIn W m k) (n := len) (fun i hil => by
        have := hi i hil
        rw [List.getElem?_eq_getElem (by omega)] at this
        obtain ⟨cs', g1, g2⟩ := Option.bind_eq_some_iff.1 this
        obtain ⟨t, rfl, ht⟩ := open_deriv m n' cs' _ (by omega) g2
        have this0 := hi 0 (by omega)
        rw [List.getElem?_eq_getElem (by omega)] at this0
        obtain ⟨c0, g3, _⟩ := Option.bind_eq_some_iff.1 this0
        obtain ⟨b, off, e, hr⟩ := elem_range (by decide) g1 (base_there (by decide) g3)
        exact ⟨t, ⟨b, off, by rw [e], hr⟩, ht⟩)
      subst k1
      exact ⟨(a, some p, cap, ks), rfl, fun j k hk => k2 j k hk⟩
set_option maxRecDepth 100000 in
theorem open_tree {H : Type} {enc : TypeId × Value → H} {W : World} {r : Reach} {base : Nat} {v : Value} {d : DataW H} {p : List MemPlace} (hok : Value.okWide Try.prog W r base 74 v) (h : DataW.Trod enc Try.prog W 0 (fun _ => true) true 74 v d p) : ∃ (m : Nat) (t : DT m), v = .agg (encT m t).toArray ∧ TIn W m t := by
  obtain ⟨cs, rfl, hs⟩ := okWide_struct Try.underlying74 hok
  obtain ⟨fuel, hf⟩ := h
  obtain ⟨t, ht, hi⟩ := open_deriv fuel fuel cs.toList _ (by omega) (show DataW.trod enc Try.prog W 0 (fun _ => true) true fuel 74 cs.toList = some _ from hf)
  refine ⟨fuel, t, ?_, hi⟩
  rw [← ht]
end O29
end Go.Proofs.Ytepfbhigeghjjaa.Q
