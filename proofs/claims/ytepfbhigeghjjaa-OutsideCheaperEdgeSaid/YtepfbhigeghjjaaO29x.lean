/- A value as an argument, opened. A hypergraph as an argument, opened. A hypergraph as an argument, opened, with its slice's capacity. -/
import Derived.Test.YtepfbhigeghjjaaO29
import Derived.Lib.SmallJoins
import Derived.OpenShut
namespace Go.Proofs.Ytepfbhigeghjjaa.Q.O29
open Go.ChangeShapes Go.WideShapes Go.Deep Go.RowKit
set_option linter.unusedVariables false
set_option linter.unusedSimpArgs false
set_option maxRecDepth 100000 in
theorem open_value {H : Type} {enc : TypeId × Value → H} {W : World} {r : Reach} {base : Nat} {v : Value} {d : DataW H} {p : List MemPlace} (hok : Value.okWide Try.prog W r base 54 v) (h : DataW.Trod enc Try.prog W 0 (fun _ => true) true 54 v d p) : ∃ a b : Int, v = .agg #[.int .i64 a, .int .i64 b] := by
  obtain ⟨cs, rfl, hs⟩ := okWide_struct Try.underlying54 hok
  obtain ⟨fuel, hf⟩ := h
  obtain ⟨y, hy⟩ := open_V (show DataW.trod enc Try.prog W 0 (fun _ => true) true fuel 54 cs.toList = some _ from hf)
  refine ⟨y.1, y.2, ?_⟩
  have : cs = (encV y).toArray := by rw [← hy]
  rw [this]
  rfl
end Go.Proofs.Ytepfbhigeghjjaa.Q.O29
namespace Go.Proofs.Ytepfbhigeghjjaa.Q.O29
open Go.ChangeShapes Go.WideShapes Go.Deep Go.RowKit
set_option linter.unusedVariables false
set_option linter.unusedSimpArgs false
theorem five_of {cs : List Value} (h : cs.length = 5) : ∃ a b c d e, cs = [a, b, c, d, e] := by
  match cs, h with
  | [a, b, c, d, e], _ => exact ⟨a, b, c, d, e, rfl⟩
theorem one_of {cs : List Value} (h : cs.length = 1) : ∃ a, cs = [a] := by
  match cs, h with
  | [a], _ => exact ⟨a, rfl⟩
theorem cells22 : Try.prog.cellsOf 22 = 1 := by kernel_rfl
theorem cells60 : Try.prog.cellsOf 60 = 5 := by kernel_rfl
theorem cells48 : Try.prog.cellsOf 48 = 2 := by kernel_rfl
theorem cellsAR : Try.prog.cellsOf 58 = 2 := by kernel_rfl
theorem cellsSL : Try.prog.cellsOf 46 = 1 := by kernel_rfl
/-- The base's cell is there where a slice has an element. -/
theorem base_there {W : World} {base : Nat} {a : Addr} {s : Nat} {c0 : List Value} (hs : 0 < s) (h : W.cells? base (a.add (0 * s)) s = some c0) : ∃ v, W.cell? a = some v := by
  obtain ⟨_, hl0, hc0⟩ := World.cells?_some h
  have := hc0 0 hs
  rw [Nat.zero_mul] at this
  obtain ⟨v, hv⟩ : ∃ v, c0[0]? = some v := ⟨_, List.getElem?_eq_getElem (by omega)⟩
  rw [hv] at this
  exact ⟨v, this⟩
theorem open_ints {H : Type} {enc : TypeId × Value → H} {W : World} {fuel : Nat} {cs : List Value} {x : DataW H × List MemPlace} (h : DataW.trod enc Try.prog W 0 (fun _ => true) true fuel 22 cs = some x) :
    ∃ (A : Option Addr) (cap : Nat) (l : List Int), cs = [.slice A l.length cap] ∧ IntsIn W A l := by
  rcases open_slice Try.underlying22 h with ⟨hcs, _⟩ | ⟨a, len, cap, m, n, D, Pl, hcs, _, hl, hm, hmm, _, hx⟩
  · exact ⟨none, 0, [], hcs, fun j o ho => by simp at ho⟩
  · rw [cells3] at hx
    simp only [if_true] at hmm
    obtain rfl := hmm
    obtain ⟨l, h1, h2⟩ := list_of_fn (p := fun j (o : Int) => ∃ b oo, some a = some ⟨b, oo, none⟩ ∧ W.cell? ⟨b, oo + j, none⟩ = some (.int .i64 o)) (n := len) (fun i hi => by
      obtain ⟨cs', h1, h2⟩ := hx i (by omega)
      obtain ⟨o, rfl, _⟩ := DataW.trod_int Try.underlying3 h2
      obtain ⟨c0, h3, _⟩ := hx 0 (by omega)
      obtain ⟨b, off, e, hr⟩ := elem_range (by decide) h1 (base_there (by decide) h3)
      refine ⟨o, b, off, by rw [e], ?_⟩
      have := hr 0 _ rfl
      rwa [Nat.mul_one, Nat.add_zero] at this)
    subst h1
    exact ⟨some a, _, l, hcs, fun j t ht => by
      obtain ⟨b, oo, e, hc⟩ := h2 j t ht
      exact ⟨b, oo, e, hc⟩⟩
theorem open_edge {H : Type} {enc : TypeId × Value → H} {W : World} {fuel : Nat} {cs : List Value} {x : DataW H × List MemPlace} (h : DataW.trod enc Try.prog W 0 (fun _ => true) true fuel 60 cs = some x) : ∃ e : REd, cs = encE e ∧ IntsIn W e.A e.tails := by
  obtain ⟨y0, y1, y2, y3, n, _, hl, h0, h1, h2, h3⟩ := Go.Joins.trod_struct4 Try.underlying60 h
  rw [cells60] at hl
  obtain ⟨c0, c1, c2, c3, c4, rfl⟩ := five_of hl
  simp only [cells3, cells22, cellsAR, List.drop_zero, List.take_succ_cons, List.take_zero, List.drop_succ_cons] at h0 h1 h2 h3
  obtain ⟨a, ha, _⟩ := DataW.trod_int Try.underlying3 h0
  obtain ⟨A, cap, l, hA, hI⟩ := open_ints h1
  obtain ⟨b, hb, _⟩ := DataW.trod_int Try.underlying3 h2
  obtain ⟨xs, m, _, _, _, hlen, hx⟩ := DataW.trod_array Try.underlying58 h3
  have g0 := hx 0 (by decide)
  have g1 := hx 1 (by decide)
  rw [List.getElem?_eq_getElem (by omega)] at g0 g1
  simp only [cells3, Nat.zero_mul, Nat.one_mul, List.drop_zero, List.take_succ_cons, List.take_zero, List.drop_succ_cons] at g0 g1
  obtain ⟨l0, hl0, _⟩ := DataW.trod_int Try.underlying3 g0
  obtain ⟨l1, hl1, _⟩ := DataW.trod_int Try.underlying3 g1
  cases ha
  cases hA
  cases hb
  cases hl0
  cases hl1
  exact ⟨⟨A, cap, a, l, b, l0, l1⟩, rfl, hI⟩
theorem open_edges {H : Type} {enc : TypeId × Value → H} {W : World} {fuel : Nat} {cs : List Value} {x : DataW H × List MemPlace} (h : DataW.trod enc Try.prog W 0 (fun _ => true) true fuel 46 cs = some x) :
    ∃ (A : Option Addr) (cap : Nat) (es : List REd), cs = [.slice A es.length cap] ∧ EdsIn W A es := by
  rcases open_slice Try.underlying46 h with ⟨hcs, _⟩ | ⟨a, len, cap, m, n, D, Pl, hcs, _, hl, hm, hmm, _, hx⟩
  · exact ⟨none, 0, [], hcs, ⟨fun j o ho => by simp at ho, fun e he => by cases he⟩⟩
  · rw [cells60] at hx
    simp only [if_true] at hmm
    obtain rfl := hmm
    obtain ⟨es, h1, h2⟩ := list_of_fn (p := fun j (e : REd) => (∃ b oo, some a = some ⟨b, oo, none⟩ ∧ W.rangeAt b (oo + j * 5) (encE e)) ∧ IntsIn W e.A e.tails) (n := len) (fun i hi => by
      obtain ⟨cs', h1, h2⟩ := hx i (by omega)
      obtain ⟨e, rfl, hI⟩ := open_edge h2
      obtain ⟨c0, h3, _⟩ := hx 0 (by omega)
      obtain ⟨b, off, ea, hr⟩ := elem_range (by decide) h1 (base_there (by decide) h3)
      exact ⟨e, ⟨b, off, by rw [ea], hr⟩, hI⟩)
    subst h1
    exact ⟨some a, _, es, hcs, ⟨fun j e he => (h2 j e he).1, fun e he => by
      obtain ⟨j, hj⟩ := List.getElem?_of_mem he
      exact (h2 j e hj).2⟩⟩
set_option maxRecDepth 100000 in
theorem open_hyper {H : Type} {enc : TypeId × Value → H} {W : World} {r : Reach} {base : Nat} {v : Value} {d : DataW H} {p : List MemPlace} (hok : Value.okWide Try.prog W r base 48 v) (h : DataW.Trod enc Try.prog W 0 (fun _ => true) true 48 v d p) :
    ∃ (n : Int) (A : Option Addr) (cap : Nat) (es : List REd), v = .agg #[.int .i64 n, .slice A es.length cap] ∧ EdsIn W A es := by
  obtain ⟨cs, rfl, hs⟩ := okWide_struct Try.underlying48 hok
  obtain ⟨fuel, hf⟩ := h
  obtain ⟨y0, y1, m, _, hl, h0, h1⟩ := trod_struct2 Try.underlying48 (show DataW.trod enc Try.prog W 0 (fun _ => true) true fuel 48 cs.toList = some _ from hf)
  rw [cells48] at hl
  obtain ⟨u, v, huv⟩ := two_of hl
  rw [huv] at h0 h1
  simp only [cells3, cellsSL, List.drop_zero, List.take_succ_cons, List.take_zero, List.drop_succ_cons] at h0 h1
  obtain ⟨n, hn, _⟩ := DataW.trod_int Try.underlying3 h0
  obtain ⟨A, cap, es, hA, hE⟩ := open_edges h1
  cases hn
  cases hA
  refine ⟨n, A, cap, es, ?_, hE⟩
  have : cs = #[.int .i64 n, .slice A es.length cap] := by
    rw [← Array.toArray_toList (xs := cs), huv]
  rw [this]
end Go.Proofs.Ytepfbhigeghjjaa.Q.O29
namespace Go.Proofs.Ytepfbhigeghjjaa.Q.O29
open Go.ChangeShapes Go.WideShapes Go.Deep Go.RowKit
set_option linter.unusedVariables false
set_option linter.unusedSimpArgs false
theorem edges_cap {H : Type} {enc : TypeId × Value → H} {W : World} {fuel : Nat} {A : Option Addr} {len cap : Nat} {x : DataW H × List MemPlace} (h : DataW.trod enc Try.prog W 0 (fun _ => true) true fuel 46 [.slice A len cap] = some x) : len ≤ cap := by
  rcases open_slice Try.underlying46 h with ⟨hcs, _⟩ | ⟨a, len', cap', m, n, D, Pl, hcs, _, hl, hm, hmm, _, hx⟩
  · cases hcs
    exact Nat.le_refl _
  · cases hcs
    exact hl
set_option maxRecDepth 100000 in
theorem open_hyper_cap {H : Type} {enc : TypeId × Value → H} {W : World} {r : Reach} {base : Nat} {v : Value} {d : DataW H} {p : List MemPlace} (hok : Value.okWide Try.prog W r base 48 v) (h : DataW.Trod enc Try.prog W 0 (fun _ => true) true 48 v d p) :
    ∃ (n : Int) (A : Option Addr) (cap : Nat) (es : List REd), v = .agg #[.int .i64 n, .slice A es.length cap] ∧ EdsIn W A es ∧ es.length ≤ cap := by
  obtain ⟨cs, rfl, hs⟩ := okWide_struct Try.underlying48 hok
  obtain ⟨fuel, hf⟩ := h
  obtain ⟨y0, y1, m, _, hl, h0, h1⟩ := trod_struct2 Try.underlying48 (show DataW.trod enc Try.prog W 0 (fun _ => true) true fuel 48 cs.toList = some _ from hf)
  rw [cells48] at hl
  obtain ⟨u, v, huv⟩ := two_of hl
  rw [huv] at h0 h1
  simp only [cells3, cellsSL, List.drop_zero, List.take_succ_cons, List.take_zero, List.drop_succ_cons] at h0 h1
  obtain ⟨n, hn, _⟩ := DataW.trod_int Try.underlying3 h0
  obtain ⟨A, cap, es, hA, hE⟩ := open_edges h1
  rw [hA] at h1
  have hc := edges_cap h1
  cases hn
  cases hA
  refine ⟨n, A, cap, es, ?_, hE, hc⟩
  have : cs = #[.int .i64 n, .slice A es.length cap] := by
    rw [← Array.toArray_toList (xs := cs), huv]
  rw [this]
end Go.Proofs.Ytepfbhigeghjjaa.Q.O29
