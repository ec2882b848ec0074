/- Values, hypergraphs and a solver in memory. -/
import Derived.Test.YtepfbhigeghjjaaK2
import Derived.Test.YtepfbhigeghjjaaQEi
import Derived.Test.YtepfbhigeghjjaaQ5
import Derived.Deep.OwnRows
namespace Go.Proofs.Ytepfbhigeghjjaa.Q
open Go.RowKit Go.Proofs.YtepfbhigeghjjaaW.PrintLast
set_option linter.unusedVariables false
set_option linter.unusedSimpArgs false
def encV (y : K.V) : List Value := [.int .i64 y.1, .int .i64 y.2]
/-- A slice of values that is only read. -/
def ValsIn (W : World) (A : Option Addr) (l : List K.V) : Prop := ∀ (j : Nat) y, l[j]? = some y → ∃ b o, A = some ⟨b, o, none⟩ ∧ W.rangeAt b (o + j * 2) (encV y)
theorem ValsIn.below {w W : World} {A : Option Addr} {l : List K.V} (h : ValsIn w A l) (hb : Below w.heap.size w W) : ValsIn W A l := fun j y hy => by
  obtain ⟨b, o, e, hr⟩ := h j y hy
  exact ⟨b, o, e, fun k v hv => (hb.cell (World.block_lt_of_cell? w _ (hr k v hv))).trans (hr k v hv)⟩
/-- n values in block b. -/
structure ValsAt (W : World) (b n : Nat) (v : Nat → K.V) : Prop where
  blk : ∃ cur, W.heap[b]? = some (.cells cur 54 (0, 0)) ∧ cur.size = n * 2
  at_ : ∀ i, i < n → W.rangeAt b (i * 2) (encV (v i))
theorem ValsAt.eff {S : Nat → Prop} {W W' : World} {b n : Nat} {v : Nat → K.V} (h : ValsAt W b n v) (he : Eff S W W') (hn : ¬ S b) : ValsAt W' b n v := by
  obtain ⟨⟨cur, h1, h2⟩, h3⟩ := h
  exact ⟨⟨cur, he.heap h1 hn, h2⟩, fun i hi => rangeAt_eff (h3 i hi) he hn⟩
theorem ValsAt.lt {W : World} {b n : Nat} {v : Nat → K.V} (h : ValsAt W b n v) : b < W.heap.size := by
  obtain ⟨⟨cur, h1, h2⟩, h3⟩ := h
  exact (Array.getElem?_eq_some_iff.1 h1).1
theorem ValsAt.there {W : World} {b n : Nat} {v : Nat → K.V} (h : ValsAt W b n v) (i : Nat) (hi : i < n) : W.there b (i * 2) 2 := by
  obtain ⟨⟨cur, h1, h2⟩, _⟩ := h
  intro j hj
  constructor
  · simp [World.cell?, h1, show i * 2 + j < cur.size by omega]
  · simp [World.frozen?, h1]
theorem ValsAt.frozen {W : World} {b n : Nat} {v : Nat → K.V} (h : ValsAt W b n v) (o : Nat) : W.frozen? ⟨b, o, none⟩ = false := by
  obtain ⟨⟨cur, h1, h2⟩, _⟩ := h
  simp [World.frozen?, h1]
theorem ValsAt.set {W : World} {b n : Nat} {v : Nat → K.V} (h : ValsAt W b n v) (i : Nat) (hi : i < n) (y : K.V) : ValsAt (W.setCells b (i * 2) (encV y)) b n (K.upd v i y) := by
  have ht := h.there i hi
  obtain ⟨⟨cur, h1, h2⟩, h3⟩ := h
  obtain ⟨cur', h4, h5⟩ := blk_setCells b 54 (encV y) (i * 2) W cur h1
  refine ⟨⟨cur', h4, ?_⟩, fun j hj => ?_⟩
  · rw [← Array.length_toList, h5, setAt_length, Array.length_toList, h2]
  · by_cases hji : j = i
    · subst hji
      rw [K.upd_self]
      exact World.rangeAt_setCells_same W b (j * 2) (encV y) ht
    · rw [K.upd_ne _ _ hji]
      exact World.rangeAt_setCells_apart (h3 j hj) b (i * 2) (encV y) (.inr (by simp only [encV, List.length_cons, List.length_nil]; omega))
theorem ValsAt.congr {W : World} {b n : Nat} {v u : Nat → K.V} (h : ValsAt W b n v) (e : ∀ i, i < n → v i = u i) : ValsAt W b n u := ⟨h.blk, fun i hi => by rw [← e i hi]; exact h.at_ i hi⟩
theorem rowIs_eff {S : Nat → Prop} {W W' : World} {b n : Nat} {t : TypeId} {f : Nat → Value} (h : W.rowIs b t n f) (he : Eff S W W') (hn : ¬ S b) : W'.rowIs b t n f := by
  obtain ⟨c, hb, h1, h2⟩ := h
  exact ⟨c, he.heap hb hn, h1, h2⟩
/-- A hyperedge as it lies in memory. -/
structure REd where
  A : Option Addr
  cap : Nat
  head : Int
  tails : List Int
  cost : Int
  l0 : Int
  l1 : Int
def encE (e : REd) : List Value := [.int .i64 e.head, .slice e.A e.tails.length e.cap, .int .i64 e.cost, .int .i64 e.l0, .int .i64 e.l1]
def IntsIn (W : World) (A : Option Addr) (l : List Int) : Prop := ∀ (j : Nat) t, l[j]? = some t → ∃ b o, A = some ⟨b, o, none⟩ ∧ W.cell? ⟨b, o + j, none⟩ = some (.int .i64 t)
/-- A slice of hyperedges that is only read. -/
structure EdsIn (W : World) (A : Option Addr) (es : List REd) : Prop where
  at_ : ∀ (j : Nat) e, es[j]? = some e → ∃ b o, A = some ⟨b, o, none⟩ ∧ W.rangeAt b (o + j * 5) (encE e)
  tails : ∀ e ∈ es, IntsIn W e.A e.tails
theorem IntsIn.eff {S : Nat → Prop} {W W' : World} {A : Option Addr} {l : List Int} (h : IntsIn W A l) (he : Eff S W W') (hn : ∀ k, k < W.heap.size → ¬ S k) : IntsIn W' A l := fun j t ht => by
  obtain ⟨b, o, e, hc⟩ := h j t ht
  exact ⟨b, o, e, he.cell hc (hn _ (World.block_lt_of_cell? W _ hc))⟩
theorem IntsIn.below {W W' : World} {A : Option Addr} {l : List Int} (h : IntsIn W A l) (hb : Below W.heap.size W W') : IntsIn W' A l := h.eff (Eff.of_below hb (fun _ => False)) (fun _ _ h => h)
theorem EdsIn.below {W W' : World} {A : Option Addr} {es : List REd} (h : EdsIn W A es) (hb : Below W.heap.size W W') : EdsIn W' A es :=
  ⟨fun j e he => by
    obtain ⟨b, o, ea, hr⟩ := h.at_ j e he
    exact ⟨b, o, ea, fun k v hv => (hb.cell (World.block_lt_of_cell? W _ (hr k v hv))).trans (hr k v hv)⟩, fun e he => (h.tails e he).below hb⟩
/-- The hyperedge's plain form, where its numbers are no less than 0. -/
def REd.plain (e : REd) : K.Ed := ⟨e.head.toNat, e.tails.map Int.toNat, e.cost⟩
def REd.ok (n : Nat) (e : REd) : Prop := 0 ≤ e.head ∧ e.head < n ∧ (∀ t ∈ e.tails, 0 ≤ t ∧ t < n) ∧ 0 ≤ e.cost ∧ e.cost ≤ K.INF ∧ e.tails.length ≤ 4
end Go.Proofs.Ytepfbhigeghjjaa.Q
