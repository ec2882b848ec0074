/- PqueuePlays: the two queues in one memory. -/
import Derived.Test.YtepfbhigeghjjaaL28a
import Derived.Test.YtepfbhigeghjjaaL28x
import Derived.Test.YtepfbhigeghjjaaR28o
import Derived.Test.YtepfbhigeghjjaaR28p
import Derived.Test.YtepfbhigeghjjaaR28u
namespace Go.Proofs.Ytepfbhigeghjjaa.Q
open Go.RowKit Go.Proofs.YtepfbhigeghjjaaW.PrintLast
set_option linter.unusedVariables false
set_option linter.unusedSimpArgs false

structure Op4 where
  k : Int
  h : Int
  key : Int
  id : Int
def encOp (o : Op4) : List Value := [.int .i64 o.k, .int .i64 o.h, .int .i64 o.key, .int .i64 o.id]
theorem IsR.effT {B C : Nat} {W W' : World} {m : Nat} {hv : Value} {es : List (En E28)} {nx ck : Int} (h : IsR B W m hv es nx ck) (he : EffT 90 92 C W W') : IsR B W' m hv es nx ck := by
  refine ⟨he.blk m _ _ _ h.blk (by decide) (by decide), h.mB, h.row.1, h.row.2.imp id ?_⟩
  rintro ⟨g, cap, cur, h1, h2, h3, h4⟩
  exact ⟨g, cap, cur, h1, h2, he.blk g _ _ _ h3 (by decide) (by decide), h4⟩
theorem IsR.below {B : Nat} {W W' : World} {m : Nat} {hv : Value} {es : List (En E28)} {nx ck : Int} (h : IsR B W m hv es nx ck) (he : Below W.heap.size W W') : IsR B W' m hv es nx ck := h.eff (Eff.of_below he (fun _ => False)) (fun _ _ h => h)
theorem IsR.row98 {B : Nat} {W : World} {m k : Nat} {hv : Value} {es : List (En E28)} {nx ck : Int} (h : IsR B W m hv es nx ck) (hk : some k = hv.ownBlock) : ∃ cur, W.heap[k]? = some (.cells cur 98 (0, 0)) := by
  rcases h.row.2 with ⟨rfl, _⟩ | ⟨g, cap, cur, rfl, _, h3, _⟩
  · simp [Value.ownBlock] at hk
  · have : k = g := by simpa [Value.ownBlock] using hk
    subst this
    exact ⟨cur, h3⟩
/-- What the reference's operations leave: a block of another type. -/
theorem IsR.keep {B : Nat} {W W' : World} {m p : Nat} {hv : Value} {es : List (En E28)} {nx ck : Int} (h : IsR B W m hv es nx ck) (he : Eff (fun k => k = m ∨ some k = hv.ownBlock) W W') {cs : Array Value} {t : TypeId} {f : Nat × Nat} (hp : W.heap[p]? = some (.cells cs t f)) (h1 : t ≠ 41) (h2 : t ≠ 98) : W'.heap[p]? = some (.cells cs t f) := by
  refine he.heap hp ?_
  rintro (rfl | hk)
  · rw [h.blk] at hp
    cases hp
    exact h1 rfl
  · obtain ⟨cur, h3⟩ := h.row98 hk
    rw [h3] at hp
    cases hp
    exact h2 rfl
theorem IsR.base {B : Nat} {W W' w : World} {m : Nat} {hv : Value} {es : List (En E28)} {nx ck : Int} (h : IsR B W m hv es nx ck) (hB : Below B w W) (hs : B ≤ W.heap.size) (he : Eff (fun k => k = m ∨ some k = hv.ownBlock) W W') : Below B w W' :=
  hB.trans (he.belowB hs (fun i hi => by
    rcases hi with rfl | hi
    · exact h.mB
    · exact (Row.lt h.row i hi.symm).1))
/-- .. and the other queue. -/
theorem QA.effR {B C : Nat} {W W' : World} {g m : Nat} {hv : Value} {S es : List (En E28)} {nx ck nx' ck' : Int} (h : QA 90 92 lessE C W g S nx ck) (r : IsR B W m hv es nx' ck') (he : Eff (fun k => k = m ∨ some k = hv.ownBlock) W W') : QA 90 92 lessE C W' g S nx ck := by
  obtain ⟨hv', mb, es', hq, hh, hp⟩ := h
  refine ⟨hv', mb, es', hq.eff he (fun b hb e => ?_), hh, hp⟩
  rcases e with rfl | e
  · exact own_apart hq r.blk (by decide) (by decide) hb
  · obtain ⟨cur, h3⟩ := r.row98 e
    exact own_apart hq h3 (by decide) (by decide) hb
/-- What holds behind i operations. -/
structure PlaysInv (w wr : World) (g m i : Nat) (S es : List (En E28)) (nx ck : Int) : Prop where
  q : QA 90 92 lessE w.heap.size wr g S nx ck
  r : ∃ hv, IsR w.heap.size wr m hv es nx ck
  pi : PI S es nx ck i
  below : Below w.heap.size w wr
theorem PlaysInv.next {w wr : World} {g m i : Nat} {S es : List (En E28)} {nx ck : Int} (h : PlaysInv w wr g m i S es nx ck) : PlaysInv w wr g m (i + 1) S es nx ck := ⟨h.q, h.r, h.pi.next, h.below⟩
theorem PlaysInv.lenQ {w wr : World} {g m i : Nat} {S es : List (En E28)} {nx ck : Int} (h : PlaysInv w wr g m i S es nx ck) (n : Int) (hn : (S.length : Int) = n) : Calls Try.prog 31 #[.pointer (some ⟨g, 0, none⟩)] wr fun r w' => r = .returned (.int .i64 n) ∧ w' = wr := by
  subst hn
  exact lenA_E h.q
theorem PlaysInv.lenR {w wr : World} {g m i : Nat} {S es : List (En E28)} {nx ck : Int} (h : PlaysInv w wr g m i S es nx ck) (n : Int) (hn : (S.length : Int) = n) : Calls Try.prog 37 #[.pointer (some ⟨m, 0, none⟩)] wr fun r w' => r = .returned (.int .i64 n) ∧ w' = wr := by
  obtain ⟨hv, r⟩ := h.r
  rw [← hn, ← h.pi.p.length_eq]
  exact Q.lenR r
end Go.Proofs.Ytepfbhigeghjjaa.Q
