/- A queue in memory: what its block, its row and its map say; how they are carried from world to world. No program is named but by type numbers. -/
import Derived.Test.YtepfbhigeghjjaaQ0
import Derived.Deep.MidRow
import Derived.OwnWalk
namespace Go.Proofs.Ytepfbhigeghjjaa.Q
open Go.RowKit Go.MapKept
set_option linter.unusedVariables false
set_option linter.unusedSimpArgs false

section
variable {α : Type} [Cells α]
/-- The value that the map 'place' has at a handle. -/
def hidx {α : Type} (es : List (En α)) (k : Int) : Option Int := Option.map (fun n : Nat => (n : Int)) (es.findIdx? (fun e => e.h == k))

/-- A row of entries. -/
def Row (te : TypeId) (B : Nat) (W : World) (hv : Value) (es : List (En α)) : Prop := W.ownsRow B te (esz α) hv es.length (flat es)

structure IsQ (tq te : TypeId) (lv : Value) (B : Nat) (W : World) (g : Nat) (hv : Value) (mb : Nat) (es : List (En α)) (nx ck : Int) : Prop where
  blk : W.heap[g]? = some (.cells #[lv, hv, .map (some mb), .int .i64 nx, .int .i64 ck] tq (0, 0))
  gB : B ≤ g
  mB : B ≤ mb
  row : Row te B W hv es
  map : MapAt W mb (hidx es)
  nd : (es.map (·.h)).Nodup

/-- The blocks that a queue owns. -/
def own (g : Nat) (hv : Value) (mb : Nat) (k : Nat) : Prop := k = g ∨ some k = hv.ownBlock ∨ k = mb

theorem Row.lt {te : TypeId} {B : Nat} {W : World} {hv : Value} {es : List (En α)} (h : Row te B W hv es) (k : Nat) (hk : hv.ownBlock = some k) : B ≤ k ∧ k < W.heap.size := World.ownsRow.lt h k hk
theorem Row.eff {te : TypeId} {B : Nat} {W W' : World} {hv : Value} {es : List (En α)} {S : Nat → Prop} (h : Row te B W hv es) (he : Eff S W W') (hn : ∀ k, hv.ownBlock = some k → ¬ S k) : Row te B W' hv es := by
  refine ⟨h.1, h.2.imp id ?_⟩
  rintro ⟨g, cap, cur, rfl, hb, hh, h1⟩
  exact ⟨g, cap, cur, rfl, hb, he.heap hh (hn g rfl), h1⟩
theorem Row.ne {te t : TypeId} {B : Nat} {W : World} {hv : Value} {es : List (En α)} (h : Row te B W hv es) {g : Nat} {cs : Array Value} {f : Nat × Nat} (hg : W.heap[g]? = some (.cells cs t f)) (ht : t ≠ te) : hv.ownBlock ≠ some g := by
  rcases h.2 with ⟨rfl, _⟩ | ⟨b, cap, cur, rfl, _, hh, _⟩
  · simp [Value.ownBlock]
  · intro e
    have : b = g := by simpa [Value.ownBlock] using e
    subst this
    rw [hg] at hh
    cases hh
    exact ht rfl
theorem Row.neM {te : TypeId} {B : Nat} {W : World} {hv : Value} {es : List (En α)} (h : Row te B W hv es) {mb : Nat} {f : Int → Option Int} (hm : MapAt W mb f) : hv.ownBlock ≠ some mb := by
  obtain ⟨l, clk, hl, _⟩ := hm
  rcases h.2 with ⟨rfl, _⟩ | ⟨b, cap, cur, rfl, _, hh, _⟩
  · simp [Value.ownBlock]
  · intro e
    have : b = mb := by simpa [Value.ownBlock] using e
    subst this
    rw [hl.1] at hh
    cases hh
/-- The row's shape where it has an element. -/
theorem Row.form {te : TypeId} {B : Nat} {W : World} {hv : Value} {es : List (En α)} (h : Row te B W hv es) (hp : 0 < es.length) :
    ∃ b cap cur, hv = .slice (some ⟨b, 0, none⟩) es.length cap ∧ B ≤ b ∧ W.heap[b]? = some (.cells cur te (0, 0)) ∧ es.length ≤ cap ∧ cap ≤ maxLen ∧ cur.size = cap * esz α ∧ cur.toList.take (es.length * esz α) = flat es := by
  rcases h.2 with ⟨_, h0⟩ | h1
  · omega
  · exact h1
theorem Row.range {te : TypeId} {B : Nat} {W : World} {b cap n : Nat} {es : List (En α)} (h : Row te B W (.slice (some ⟨b, 0, none⟩) n cap) es) (i : Nat) (e : En α) (hi : es[i]? = some e) :
    W.rangeAt b (i * esz α) (enc e) := by
  intro j v hv
  have hj : j < esz α := by rw [← enc_length e]; exact (List.getElem?_eq_some_iff.1 hv).1
  have hc := World.ownsRow.cells h (g := b) rfl (i * esz α + j) v (by rw [flat_get _ _ _ hj, hi]; exact hv)
  rwa [Addr.add_mid, Nat.zero_add] at hc
theorem Row.there {te : TypeId} {B : Nat} {W : World} {b cap n : Nat} {es : List (En α)} (h : Row te B W (.slice (some ⟨b, 0, none⟩) n cap) es) (i : Nat) (hi : i < es.length) :
    W.there b (i * esz α) (esz α) := by
  obtain ⟨b', cap', cur, he, _, hh, hc, _, hs, hl⟩ := Row.form h (by omega)
  cases he
  intro j hj
  have hle : (i + 1) * esz α ≤ es.length * esz α := Nat.mul_le_mul_right _ (by omega)
  have hle2 : es.length * esz α ≤ cap * esz α := Nat.mul_le_mul_right _ hc
  rw [Nat.add_mul, Nat.one_mul] at hle
  constructor
  · simp [World.cell?, hh, show i * esz α + j < cur.size by rw [hs]; omega]
  · simp [World.frozen?, hh]
theorem heap_setCells (b : Nat) : ∀ (vs : List Value) (o : Nat) (W : World) (k : Nat), k ≠ b → (W.setCells b o vs).heap[k]? = W.heap[k]?
  | [], _, _, _, _ => rfl
  | v :: vs, o, W, k, hk => (heap_setCells b vs (o + 1) (W.setCell ⟨b, o, none⟩ v) k hk).trans (Below.heap_setCell W ⟨b, o, none⟩ v k hk)
theorem eff_setCells (b : Nat) : ∀ (vs : List Value) (o : Nat) (W : World), Eff (fun k => k = b) W (W.setCells b o vs) ∧ (W.setCells b o vs).heap.size = W.heap.size
  | [], _, W => ⟨Eff.refl _ _, rfl⟩
  | v :: vs, o, W => by
    have h := eff_setCells b vs (o + 1) (W.setCell ⟨b, o, none⟩ v)
    exact ⟨((Eff.refl (fun k => k = b) W).setCell (p := ⟨b, o, none⟩) (.inl rfl) v).trans h.1 (fun i hi => .inl hi), h.2.trans (by simp [World.setCell])⟩
theorem blk_setCells (b : Nat) (t : TypeId) : ∀ (vs : List Value) (o : Nat) (W : World) (cur : Array Value), W.heap[b]? = some (.cells cur t (0, 0)) →
    ∃ cur', (W.setCells b o vs).heap[b]? = some (.cells cur' t (0, 0)) ∧ cur'.toList = setAt cur.toList o vs
  | [], _, _, cur, h => ⟨cur, h, rfl⟩
  | v :: vs, o, W, cur, h => by
    have h1 : (W.setCell ⟨b, o, none⟩ v).heap[b]? = some (.cells (cur.setIfInBounds o v) t (0, 0)) := by
      simp [World.setCell, Array.getElem?_modify, h]
    obtain ⟨cur', h2, h3⟩ := blk_setCells b t vs (o + 1) _ _ h1
    exact ⟨cur', h2, by rw [h3]; simp [setAt]⟩
theorem setAt_take (vs : List Value) : ∀ (L : List Value) (o m : Nat), (setAt L o vs).take m = setAt (L.take m) o vs := by
  induction vs with
  | nil => intro L o m; rfl
  | cons v vs ih => intro L o m; simp only [setAt]; rw [ih, List.take_set]
/-- An element is laid anew. -/
theorem Row.store {te : TypeId} {B : Nat} {W : World} {b cap n : Nat} {es : List (En α)} (h : Row te B W (.slice (some ⟨b, 0, none⟩) n cap) es) (i : Nat) (hi : i < es.length) (e : En α) :
    Row te B (W.setCells b (i * esz α) (enc e)) (.slice (some ⟨b, 0, none⟩) n cap) (es.set i e) := by
  obtain ⟨b', cap', cur, he, hB, hh, hc, hm, hs, hl⟩ := Row.form h (by omega)
  cases he
  obtain ⟨cur', h2, h3⟩ := blk_setCells b te (enc e) (i * esz α) W cur hh
  refine ⟨by rw [flat_length], .inr ⟨b, cap, cur', by simp, hB, h2, by simpa using hc, hm, ?_, ?_⟩⟩
  · rw [← Array.length_toList, h3, setAt_length, Array.length_toList, hs]
  · rw [h3, setAt_take, List.length_set, hl, setAt_flat es i hi e]
end

/-! ### Running one operation -/
section
variable {P : Program} {w w1 : World}
theorem run_v {s : Sem Value} {v : Value} (h : s.run P w = .ok v w1) : (do pure (Next.value (← s)) : Sem Next).run P w = .ok (.value v) w1 := by simp [h, Result.andThen]
theorem run_u {s : Sem Unit} (h : s.run P w = .ok () w1) : (do s; pure Next.skip : Sem Next).run P w = .ok .skip w1 := by simp [h, Result.andThen]
end
end Go.Proofs.Ytepfbhigeghjjaa.Q
