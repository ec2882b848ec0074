/- What Solve has given, kept while slices of hyperedges are made. A slice copied onto a new one, whatever its length. A cost set. -/
import Derived.Test.YtepfbhigeghjjaaKP
import Derived.Test.YtepfbhigeghjjaaO33x
import Derived.Test.YtepfbhigeghjjaaK4
import Derived.Deep.AppendSrc
namespace Go.Proofs.Ytepfbhigeghjjaa.Q
open Go.RowKit Go.Proofs.YtepfbhigeghjjaaW.PrintLast
set_option linter.unusedVariables false
set_option linter.unusedSimpArgs false
section
variable {α : Type} {enc : α → List Value} {s : Nat}
theorem Own.blk {W : World} {B : Nat} {et : TypeId} {A : Option Addr} {c : Nat} {l : List α} (h : Own W B et s A c enc l) {k : Nat} (hk : A = some ⟨k, 0, none⟩) : B ≤ k ∧ ∃ cs, W.heap[k]? = some (.cells cs et (0, 0)) := by
  rcases h.2 with ⟨e, _⟩ | ⟨g, cap, cur, e, hb, hh, _⟩
  · simp only [Value.slice.injEq] at e
    rw [e.1] at hk
    cases hk
  · cases e; cases hk
    exact ⟨hb, cur, hh⟩
/-- append(dst, src...) where src may have no element. -/
theorem append_any {st et : TypeId} {b : Nat} (K : Kind st et s b enc) {W : World} {B : Nat} {A : Option Addr} {sb so c c2 : Nat} {l l2 : List α} (h : Own W B et s A c enc l) (hB : B ≤ W.heap.size) (h2 : RowIn W (some ⟨sb, so, none⟩) s enc l2) (hl : l.length + l2.length ≤ 1000000) :
    ∃ A' c' W', (Builtin.append_ #[st, st] st #[.slice A l.length c, .slice (some ⟨sb, so, none⟩) l2.length c2]).run Try.prog W = .ok (.slice A' (l.length + l2.length) c') W' ∧
      Own W' B et s A' c' enc (l ++ l2) ∧ Below B W W' ∧ Eff (fun k => A = some ⟨k, 0, none⟩) W W' := by
  obtain ⟨i0, z, hi0, hz0, hz1, hz2, hz3⟩ := K.info
  have hp := K.pos
  have hsm := K.small
  obtain ⟨v1, w3, hr3, ho3, hg3, _, hb3⟩ := run_append_own_at (P := Try.prog) W B st st et i0 z s b K.und hi0 hz0 hz1 hz2 hz3 K.pos _ l.length (l.flatMap enc) h
    ⟨sb, so, none⟩ l2.length c2 (l2.flatMap enc) (fl_len K.len l2) (fun j u hu => by
      obtain ⟨y, h3, h4⟩ := fl_inv K.len K.pos l2 j u hu
      obtain ⟨b', o', e, hr⟩ := h2 _ y h3
      cases e
      have := hr _ u h4
      rw [Addr.add_mid]
      rwa [Nat.add_assoc, Nat.mul_comm, Nat.div_add_mod] at this) (fun u hu => by
      obtain ⟨y, _, h4⟩ := List.mem_flatMap.1 hu
      exact K.one y u h4) (by simp only [maxLen]; omega) (by have := Nat.mul_le_mul hl hsm; omega) hB
  obtain ⟨A', c', hv⟩ := own_slice ho3
  subst hv
  have hoe : ∀ k, (Value.slice A l.length c).ownBlock = some k → A = some ⟨k, 0, none⟩ := by
    intro k hk
    rcases h.2 with ⟨e, _⟩ | ⟨g, cap, cur, e, _⟩
    · rw [e] at hk; cases hk
    · cases e
      cases hk
      rfl
  refine ⟨A', c', w3, hr3, ?_, (Eff.of_grown hg3).belowB hB (fun k hk => (World.ownsRow.lt h k hk.symm).1), (Eff.of_grown hg3).mono (fun i hi => .inl (hoe i hi.symm))⟩
  unfold Own
  rw [List.length_append, List.flatMap_append]
  exact ho3
end
theorem VSt.eff {S : Nat → Prop} {w wr W : World} {hb m len cap : Nat} {A : Option Addr} {bv be : Nat} {v : Nat → K.V} {f : Nat → Int} (h : VSt w wr hb m len cap A bv be v f) (he : Eff S wr W) {t : TypeId} (ht : t ≠ 48 ∧ t ≠ 54 ∧ t ≠ 3) (hS : ∀ k, S k → w.heap.size ≤ k ∧ ∃ c, wr.heap[k]? = some (.cells c t (0, 0))) : VSt w W hb m len cap A bv be v f := by
  have hn : ∀ {k : Nat} {c : Array Value} {u : TypeId} {g : Nat × Nat}, wr.heap[k]? = some (.cells c u g) → u ≠ t → ¬ S k := by
    intro k c u g hk hu hs
    obtain ⟨_, c', h2⟩ := hS k hs
    rw [hk] at h2
    simp only [Option.some.injEq, Obj.cells.injEq] at h2
    exact hu h2.2.1
  obtain ⟨c1, k1, _⟩ := h.vals.blk
  obtain ⟨c2, k2, _⟩ := h.edg
  exact ⟨h.below.trans (he.belowB h.below.size (fun k hk => (hS k hk).1)), he.heap h.hdr (hn h.hdr (Ne.symm ht.1)), h.vals.eff he (hn k1 (Ne.symm ht.2.1)), rowIs_eff h.edg he (hn k2 (Ne.symm ht.2.2))⟩
theorem HBZ.eff {S : Nat → Prop} {wr W : World} {hb m cap : Nat} {n : Int} {A : Option Addr} (h : HBZ wr hb n m cap A) (he : Eff S wr W) {t : TypeId} (ht : t ≠ 48) (hS : ∀ k, S k → ∃ c, wr.heap[k]? = some (.cells c t (0, 0))) : HBZ W hb n m cap A := by
  refine he.heap h (fun hs => ?_)
  obtain ⟨c', h2⟩ := hS hb hs
  have h1 : wr.heap[hb]? = _ := h
  rw [h1] at h2
  simp only [Option.some.injEq, Obj.cells.injEq] at h2
  exact ht h2.2.1.symm
/-- A made slice of hyperedges is one that can be read. -/
theorem eds_of {W : World} {A : Option Addr} {l : List REd} (h : RowIn W A 5 encE l) (ht : ∀ e ∈ l, IntsIn W e.A e.tails) : EdsIn W A l := ⟨h, ht⟩
end Go.Proofs.Ytepfbhigeghjjaa.Q
namespace Go.Proofs.Ytepfbhigeghjjaa.Q
open Go.RowKit Go.Proofs.YtepfbhigeghjjaaW.PrintLast
set_option linter.unusedVariables false
set_option linter.unusedSimpArgs false
section
variable {α : Type} {enc : α → List Value} {s : Nat}
theorem append_fresh {st et : TypeId} {b : Nat} (K : Kind st et s b enc) {W : World} {A2 : Option Addr} {c2 : Nat} {l2 : List α} (h2 : RowIn W A2 s enc l2) (hl : l2.length ≤ 1000000) :
    ∃ A' c' W', (Builtin.append_ #[st, st] st #[.slice (some ⟨W.heap.size, 0, none⟩) 0 0, .slice A2 l2.length c2]).run Try.prog (W.alloc (.cells #[] et)) = .ok (.slice A' l2.length c') W' ∧
      Own W' W.heap.size et s A' c' enc l2 ∧ Below W.heap.size W W' := by
  have al : Below W.heap.size W (W.alloc (.cells #[] et)) := (Below.refl _ _).alloc (Nat.le_refl _) _
  have hO : Own (W.alloc (.cells #[] et)) W.heap.size et s (some ⟨W.heap.size, 0, none⟩) 0 enc ([] : List α) := Own.lit K W W.heap.size (Nat.le_refl _) ([] : List α) (Nat.zero_le _)
  cases l2 with
  | nil =>
    obtain ⟨i0, z, hi0, hz0, hz1, hz2, hz3⟩ := K.info
    have hs : Src Try.prog i0.size st (.slice A2 ([] : List α).length c2) 0 [] (W.alloc (.cells #[] et)) := by
      cases A2 with
      | none => exact Src.ofNil _ K.und c2
      | some a => exact Src.ofSlice _ K.und a 0 c2 [] (by simp) (fun j u hu => by simp at hu) (fun u hu => by cases hu)
    have hr := run_append_room_src (P := Try.prog) (W.alloc (.cells #[] et)) st st st et i0 K.und hi0 W.heap.size 0 0 0 _ 0 [] hs (Nat.le_refl _) (fun j hj => absurd hj (Nat.not_lt_zero _)) (fun j hj => absurd hj (Nat.not_lt_zero _))
    exact ⟨_, _, _, hr, hO, al⟩
  | cons y l2 =>
    obtain ⟨sb, so, rfl, _⟩ := h2 0 y rfl
    obtain ⟨A', c', W', h1, h3, h4, _⟩ := append_any (c2 := c2) K hO al.size (h2.below al) (by show 0 + _ ≤ _; omega)
    have h1 := h1
    rw [show ([] : List α).length + (y :: l2).length = (y :: l2).length from Nat.zero_add _] at h1
    exact ⟨A', c', W', h1, h3, al.trans h4⟩
end
def costE (e : REd) (x : Int) : REd := ⟨e.A, e.cap, e.head, e.tails, x, e.l0, e.l1⟩
theorem flatE_set : ∀ (l : List REd) (i : Nat) (e : REd) (x : Int), l[i]? = some e → ((l.flatMap encE).set (i * 5 + 2) (.int .i64 x)) = (l.set i (costE e x)).flatMap encE
  | [], i, e, x, h => by simp at h
  | y :: l, 0, e, x, h => by cases h; rfl
  | y :: l, i + 1, e, x, h => by
    have := flatE_set l i e x (by simpa using h)
    rw [List.set_cons_succ, List.flatMap_cons, List.flatMap_cons, ← this]
    show ((_ :: _ :: _ :: _ :: _ :: _ : List Value).set ((i + 1) * 5 + 2) _) = _
    rw [show (i + 1) * 5 + 2 = i * 5 + 2 + 1 + 1 + 1 + 1 + 1 by omega, List.set_cons_succ, List.set_cons_succ, List.set_cons_succ, List.set_cons_succ, List.set_cons_succ]
    rfl
theorem own_setE {W : World} {B g c : Nat} {l : List REd} (h : Own W B 60 5 (some ⟨g, 0, none⟩) c encE l) {i : Nat} {e : REd} (hi : l[i]? = some e) (x : Int) : Own (W.setCell ⟨g, i * 5 + 2, none⟩ (.int .i64 x)) B 60 5 (some ⟨g, 0, none⟩) c encE (l.set i (costE e x)) := by
  have h1 := (World.ownsRow.stored h (i * 5 + 2) (.int .i64 x)).1
  rw [flatE_set l i e x hi] at h1
  unfold Own
  rw [List.length_set]
  exact h1
end Go.Proofs.Ytepfbhigeghjjaa.Q
