/- A queue as its callers see it: a pointer, the entries that it holds in any order, two counters. -/
import Derived.Test.YtepfbhigeghjjaaQ3
import Derived.Test.YtepfbhigeghjjaaQ4
namespace Go.Proofs.Ytepfbhigeghjjaa.Q
open Go.RowKit
set_option linter.unusedVariables false
set_option linter.unusedSimpArgs false
set_option linter.unusedSectionVars false
/-- All is as it was but for new blocks, maps, and rows and structs of the types t1 and t2 from block B on. -/
structure EffT (t1 t2 : TypeId) (B : Nat) (w w' : World) : Prop where
  os : w'.os = w.os
  tape : w'.tape = w.tape
  output : w'.output = w.output
  size : w.heap.size ≤ w'.heap.size
  old : ∀ k, k < B → k < w.heap.size → w'.heap[k]? = w.heap[k]?
  blk : ∀ (k : Nat) (cs : Array Value) (t : TypeId) (f : Nat × Nat), w.heap[k]? = some (.cells cs t f) → t ≠ t1 → t ≠ t2 → w'.heap[k]? = some (.cells cs t f)
section
variable {t1 t2 : TypeId} {B : Nat} {w w1 w2 : World}
theorem EffT.refl (t1 t2 : TypeId) (B : Nat) (w : World) : EffT t1 t2 B w w := ⟨rfl, rfl, rfl, Nat.le_refl _, fun _ _ _ => rfl, fun _ _ _ _ h _ _ => h⟩
theorem EffT.trans (h : EffT t1 t2 B w w1) (k : EffT t1 t2 B w1 w2) : EffT t1 t2 B w w2 :=
  ⟨k.os.trans h.os, k.tape.trans h.tape, k.output.trans h.output, Nat.le_trans h.size k.size, fun i hi hl => (k.old i hi (Nat.lt_of_lt_of_le hl h.size)).trans (h.old i hi hl), fun i cs t f hb h1 h2 => k.blk i cs t f (h.blk i cs t f hb h1 h2) h1 h2⟩
theorem EffT.of_below (h : Below w.heap.size w w1) : EffT t1 t2 B w w1 := ⟨h.os, h.tape, h.output, h.size, fun i _ hl => h.block i hl, fun i cs t f hb _ _ => below_heap h hb⟩
theorem EffT.below (h : EffT t1 t2 B w w1) (hB : B ≤ w.heap.size) : Below B w w1 := ⟨h.os, h.tape, h.output, h.size, fun i hi => h.old i hi (by omega)⟩
end
section
variable {α : Type} [Cells α]
/-- A queue that holds the entries of S. -/
def QA [Lt α] (tq te : TypeId) (lv : Value) (B : Nat) (W : World) (g : Nat) (S : List (En α)) (nx ck : Int) : Prop :=
  ∃ (hv : Value) (mb : Nat) (es : List (En α)), IsQ tq te lv B W g hv mb es nx ck ∧ Heap es ∧ es.Perm S
theorem min_unique [Lt α] {S R R0 : List (En α)} {m m0 : En α} (h0 : S.Perm (m0 :: R0)) (hm0 : ∀ x ∈ R0, bef m0 x = true) (h : S.Perm (m :: R)) (hm : ∀ x ∈ R, bef x m = false) : m = m0 ∧ R.Perm R0 := by
  have hp := h.symm.trans h0
  rcases List.mem_cons.1 (hp.symm.subset (List.mem_cons_self (a := m0) (l := R0))) with e | e
  · subst e
    exact ⟨rfl, hp.cons_inv⟩
  · exfalso
    rcases List.mem_cons.1 (hp.subset (List.mem_cons_self (a := m) (l := R))) with e2 | e2
    · subst e2
      have h3 := hp.cons_inv
      have := hm0 m (h3.subset e)
      rw [hm m e] at this
      cases this
    · have h1 := hm m0 e
      rw [hm0 m e2] at h1
      cases h1
theorem own_apart {tq te : TypeId} {lv : Value} {B : Nat} {W : World} {g mb : Nat} {hv : Value} {es : List (En α)} {nx ck : Int} (h : IsQ tq te lv B W g hv mb es nx ck) {k : Nat} {cs : Array Value} {t : TypeId} {f : Nat × Nat} (hk : W.heap[k]? = some (.cells cs t f)) (h1 : t ≠ tq) (h2 : t ≠ te) : ¬ own g hv mb k := by
  rintro (e | e | e)
  · rw [e, h.blk] at hk
    cases hk
    exact h1 rfl
  · exact Row.ne h.row hk h2 e.symm
  · obtain ⟨l, clk, hl, _⟩ := h.map
    rw [e, hl.1] at hk
    cases hk
theorem own_old {tq te : TypeId} {lv : Value} {B : Nat} {W : World} {g mb : Nat} {hv : Value} {es : List (En α)} {nx ck : Int} (h : IsQ tq te lv B W g hv mb es nx ck) {k : Nat} (hk : own g hv mb k) : B ≤ k := by
  rcases hk with e | e | e
  · rw [e]; exact h.gB
  · exact (Row.lt h.row k e.symm).1
  · rw [e]; exact h.mB
theorem IsQ.effT {tq te : TypeId} {lv : Value} {B : Nat} {W W' : World} {g mb : Nat} {hv : Value} {es : List (En α)} {nx ck : Int} (h : IsQ tq te lv B W g hv mb es nx ck) (he : Eff (own g hv mb) W W') : EffT tq te B W W' :=
  ⟨he.os, he.tape, he.output, he.size, fun k hk hl => he.block k hl (fun ho => by have := own_old h ho; omega), fun k cs t f hk h1 h2 => he.heap hk (own_apart h hk h1 h2)⟩
variable [Lt α]
theorem QA.eff {tq te : TypeId} {lv : Value} {B : Nat} {W W' : World} {g : Nat} {S : List (En α)} {nx ck : Int} (h : QA tq te lv B W g S nx ck) (he : Below W.heap.size W W') : QA tq te lv B W' g S nx ck := by
  obtain ⟨hv, mb, es, hq, hh, hp⟩ := h
  exact ⟨hv, mb, es, hq.eff (Eff.of_below he (fun _ => False)) (fun _ _ h => h), hh, hp⟩
theorem QA.drew {tq te : TypeId} {lv : Value} {B : Nat} {W : World} {g : Nat} {S : List (En α)} {nx ck : Int} (h : QA tq te lv B W g S nx ck) : QA tq te lv B W.drew g S nx ck := h.eff ((Below.refl _ _).drew)
/-- .. kept by what writes another type's blocks. -/
theorem QA.cells {tq te : TypeId} {lv : Value} {B : Nat} {W W' : World} {g : Nat} {S : List (En α)} {nx ck : Int} (h : QA tq te lv B W g S nx ck) {k : Nat} {cs : Array Value} {t : TypeId} {f : Nat × Nat} (hk : W.heap[k]? = some (.cells cs t f)) (h1 : t ≠ tq) (h2 : t ≠ te) (he : Eff (fun b => b = k) W W') : QA tq te lv B W' g S nx ck := by
  obtain ⟨hv, mb, es, hq, hh, hp⟩ := h
  exact ⟨hv, mb, es, hq.eff he (fun b hb e => own_apart hq hk h1 h2 (by rw [← e]; exact hb)), hh, hp⟩
theorem QA.perm {tq te : TypeId} {lv : Value} {B : Nat} {W : World} {g : Nat} {S S' : List (En α)} {nx ck : Int} (h : QA tq te lv B W g S nx ck) (hp : S.Perm S') : QA tq te lv B W g S' nx ck := by
  obtain ⟨hv, mb, es, hq, hh, hp'⟩ := h
  exact ⟨hv, mb, es, hq, hh, hp'.trans hp⟩

def NewA (tq te : TypeId) (lv : Value) (B : Nat) (w : World) (r : Ending) (w' : World) : Prop :=
  ∃ g : Nat, r = .returned (.pointer (some ⟨g, 0, none⟩)) ∧ QA tq te lv B w' g ([] : List (En α)) 0 0 ∧ Below w.heap.size w w'
def PushA (tq te : TypeId) (lv : Value) (B : Nat) (w : World) (g : Nat) (S : List (En α)) (nx ck : Int) (x : α) (r : Ending) (w' : World) : Prop :=
  r = .returned (.int .i64 nx) ∧ QA tq te lv B w' g (⟨x, nx, ck⟩ :: S) (nx + 1) (ck + 1) ∧ EffT tq te B w w'
/-- m leaves; none of those that stay leaves before it. -/
def PopA (tq te : TypeId) (lv : Value) (B : Nat) (w : World) (g : Nat) (S : List (En α)) (nx ck : Int) (r : Ending) (w' : World) : Prop :=
  ∃ (m : En α) (R : List (En α)), r = .returned (.tuple #[.agg (Cells.cs m.x).toArray, .bool true]) ∧ S.Perm (m :: R) ∧ (∀ x ∈ R, bef x m = false) ∧ QA tq te lv B w' g R nx ck ∧ EffT tq te B w w'
def PeekA (tq te : TypeId) (lv : Value) (B : Nat) (w : World) (g : Nat) (S : List (En α)) (nx ck : Int) (r : Ending) (w' : World) : Prop :=
  ∃ (m : En α) (R : List (En α)), r = .returned (.tuple #[.agg (Cells.cs m.x).toArray, .bool true]) ∧ S.Perm (m :: R) ∧ (∀ x ∈ R, bef x m = false) ∧ QA tq te lv B w' g S nx ck ∧ EffT tq te B w w'
def UpdA (tq te : TypeId) (lv : Value) (B : Nat) (w : World) (g : Nat) (R : List (En α)) (nx ck : Int) (h : Int) (x : α) (r : Ending) (w' : World) : Prop :=
  r = .returned (.bool true) ∧ QA tq te lv B w' g (⟨x, h, ck⟩ :: R) nx (ck + 1) ∧ EffT tq te B w w'
/-- A call that gives v and leaves the queue as it was. -/
def SameA (tq te : TypeId) (lv : Value) (B : Nat) (w : World) (g : Nat) (S : List (En α)) (nx ck : Int) (v : Value) (r : Ending) (w' : World) : Prop :=
  r = .returned v ∧ QA tq te lv B w' g S nx ck ∧ EffT tq te B w w'

theorem heap_min {es : List (En α)} {e : En α} {R : List (En α)} (h : Heap es) (h0 : es[0]? = some e) (hp : es.Perm (e :: R)) : ∀ x ∈ R, bef x e = false := by
  intro x hx
  have hm : x ∈ es := hp.symm.subset (List.mem_cons_of_mem _ hx)
  obtain ⟨j, hj⟩ := List.getElem?_of_mem hm
  exact heap_first h j (List.getElem?_eq_some_iff.1 hj).1 e x h0 hj
end
end Go.Proofs.Ytepfbhigeghjjaa.Q
