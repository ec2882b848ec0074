/- A slice copied onto a new one, whatever its length. A cost set. -/
import Derived.Test.YtepfbhigeghjjaaKPb
import Derived.Deep.AppendSrc
namespace Go.Proofs.Ytepfbhigeghjjaa.Q
open Go.RowKit Go.Proofs.YtepfbhigeghjjaaW.PrintLast
set_option linter.unusedVariables false
set_option linter.unusedSimpArgs false
section
variable {α : Type} {enc : α → List Value} {s : Nat}
theorem append_fresh {st et : TypeId} {b : Nat} (K : Kind st et s b enc) {W : World} {A2 : Option Addr} {c2 : Nat} {l2 : List α} (h2 : RowIn W A2 s enc l2) (hl : l2.length ≤ 1000000) :
    ∃ A' c' W', (Builtin.append_ #[st, st] st #[.slice (some ⟨W.heap.size, 0, none⟩) 0 0, .slice A2 l2.length c2]).run Try.prog (W.alloc (.cells #[] et)) = .ok (.slice A' l2.length c') W' ∧
      Own W' W.heap.size et s A' c' enc l2 ∧ Below W.heap.size W W' := by
  have al : Below W.heap.size W (W.alloc (.cells #[] et)) := (Below.refl _ _).alloc (Nat.le_refl _) _
  have hO : Own (W.alloc (.cells #[] et)) W.heap.size et s (some ⟨W.heap.size, 0, none⟩) 0 enc ([] : List α) := Own.lit K W W.heap.size (Nat.le_refl _) ([] : List α) (Nat.zero_le _)
  cases l2 with
  | nil =>
    obtain ⟨i0, z, hi0, hz0, hz1, hz2, hz3⟩ := K.info
    have hs : Src Try.prog i0.size st (.slice A2 ([] : List α).length c2) 0 [] (W.alloc (.cells #[] et)) := by
      cases A2 with
      | none => exact Src.ofNil _ K.und c2
      | some a => exact Src.ofSlice _ K.und a 0 c2 [] (by simp) (fun j u hu => by simp at hu) (fun u hu => by cases hu)
    have hr := run_append_room_src (P := Try.prog) (W.alloc (.cells #[] et)) st st st et i0 K.und hi0 W.heap.size 0 0 0 _ 0 [] hs (Nat.le_refl _) (fun j hj => absurd hj (Nat.not_lt_zero _)) (fun j hj => absurd hj (Nat.not_lt_zero _))
    exact ⟨_, _, _, hr, hO, al⟩
  | cons y l2 =>
    obtain ⟨sb, so, rfl, _⟩ := h2 0 y rfl
    obtain ⟨A', c', W', h1, h3, h4, _⟩ := append_any (c2 := c2) K hO al.size (h2.below al) (by show 0 + _ ≤ _; omega)
    have h1 := h1
    rw [show ([] : List α).length + (y :: l2).length = (y :: l2).length from Nat.zero_add _] at h1
    exact ⟨A', c', W', h1, h3, al.trans h4⟩
end
def costE (e : REd) (x : Int) : REd := ⟨e.A, e.cap, e.head, e.tails, x, e.l0, e.l1⟩
theorem flatE_set : ∀ (l : List REd) (i : Nat) (e : REd) (x : Int), l[i]? = some e → ((l.flatMap encE).set (i * 5 + 2) (.int .i64 x)) = (l.set i (costE e x)).flatMap encE
  | [], i, e, x, h => by simp at h
  | y :: l, 0, e, x, h => by cases h; rfl
  | y :: l, i + 1, e, x, h => by
    have := flatE_set l i e x (by simpa using h)
    rw [List.set_cons_succ, List.flatMap_cons, List.flatMap_cons, ← this]
    show ((_ :: _ :: _ :: _ :: _ :: _ : List Value).set ((i + 1) * 5 + 2) _) = _
    rw [show (i + 1) * 5 + 2 = i * 5 + 2 + 1 + 1 + 1 + 1 + 1 by omega, List.set_cons_succ, List.set_cons_succ, List.set_cons_succ, List.set_cons_succ, List.set_cons_succ]
    rfl
theorem own_setE {W : World} {B g c : Nat} {l : List REd} (h : Own W B 60 5 (some ⟨g, 0, none⟩) c encE l) {i : Nat} {e : REd} (hi : l[i]? = some e) (x : Int) : Own (W.setCell ⟨g, i * 5 + 2, none⟩ (.int .i64 x)) B 60 5 (some ⟨g, 0, none⟩) c encE (l.set i (costE e x)) := by
  have h1 := (World.ownsRow.stored h (i * 5 + 2) (.int .i64 x)).1
  rw [flatE_set l i e x hi] at h1
  unfold Own
  rw [List.length_set]
  exact h1
end Go.Proofs.Ytepfbhigeghjjaa.Q
