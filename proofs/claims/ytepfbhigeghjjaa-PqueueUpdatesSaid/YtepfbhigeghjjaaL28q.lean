/- PqueueUpdates: the plain part: how many entries stand before the one that was changed. -/
import Derived.Test.YtepfbhigeghjjaaL28p
namespace Go.Proofs.Ytepfbhigeghjjaa.Q
open Go.RowKit
set_option linter.unusedVariables false
set_option linter.unusedSimpArgs false
/-- The entries of the first n keys without that of the k-th. -/
def wo (ks : List Int) (k : Nat) (n : Nat) : List (En E28) := (entsL ks n).filter (fun e => e.h != (k : Int))
/-- How many of them have a key that is at most key. -/
def bc (ks : List Int) (k : Nat) (key : Int) : Nat → Nat
  | 0 => 0
  | n + 1 => bc ks k key n + (if n ≠ k ∧ ks.getD n 0 ≤ key then 1 else 0)
/-- The changed entry. -/
def ue (key : Int) (k n : Nat) : En E28 := ⟨⟨key, k⟩, k, n⟩
theorem wo_mem {ks : List Int} {k n : Nat} {e : En E28} (h : e ∈ wo ks k n) : ∃ j, j < n ∧ j ≠ k ∧ e = ent ks j := by
  obtain ⟨h1, h2⟩ := List.mem_filter.1 h
  obtain ⟨j, hj, rfl⟩ := mem_entsL.1 h1
  refine ⟨j, hj, fun e => ?_, rfl⟩
  subst e
  simp [ent] at h2
theorem wo_none {ks : List Int} {k n : Nat} (h : n ≤ k) : wo ks k n = entsL ks n := by
  refine List.filter_eq_self.2 fun e he => ?_
  obtain ⟨j, hj, rfl⟩ := mem_entsL.1 he
  have : ¬ (j : Int) = (k : Int) := by omega
  simp [ent, this]
theorem wo_perm {ks : List Int} {k n : Nat} (h : k < n) : (entsL ks n).Perm (ent ks k :: wo ks k n) := by
  induction n with
  | zero => omega
  | succ n ih =>
    by_cases e : n = k
    · subst e
      have h1 : wo ks n (n + 1) = wo ks n n := by simp [wo, entsL, ent]
      rw [h1, wo_none (Nat.le_refl n)]
      exact List.Perm.refl _
    · have h1 : wo ks k (n + 1) = ent ks n :: wo ks k n := by
        have : ¬ (n : Int) = (k : Int) := by omega
        simp [wo, entsL, ent, this]
      rw [h1]
      exact ((ih (by omega)).cons _).trans (List.Perm.swap _ _ _)
theorem wo_count (ks : List Int) (k : Nat) (key : Int) (n : Nat) : (wo ks k n).countP (fun e => decide (e.x.key ≤ key)) = bc ks k key n := by
  induction n with
  | zero => rfl
  | succ n ih =>
    by_cases e : n = k
    · subst e
      have h1 : wo ks n (n + 1) = wo ks n n := by simp [wo, entsL, ent]
      rw [h1, ih]
      simp [bc]
    · have h1 : wo ks k (n + 1) = ent ks n :: wo ks k n := by
        have : ¬ (n : Int) = (k : Int) := by omega
        simp [wo, entsL, ent, this]
      rw [h1, List.countP_cons, ih]
      by_cases h2 : ks.getD n 0 ≤ key
      · simp [bc, e, ent, h2]
      · simp [bc, e, ent, h2]
theorem bc_le (ks : List Int) (k : Nat) (key : Int) (n : Nat) : bc ks k key n ≤ n := by
  induction n with
  | zero => exact Nat.le_refl 0
  | succ n ih => simp only [bc]; split <;> omega
/-- One pop while the changed entry is there. -/
theorem upd_pop {ks : List Int} {k n : Nat} {key : Int} {R R2 : List (En E28)} {m : En E28} (hR : ∀ e ∈ R, ∃ j, j < n ∧ j ≠ k ∧ e = ent ks j) (hp : (ue key k n :: R).Perm (m :: R2)) (hm : ∀ x ∈ R2, bef x m = false) :
    (m = ue key k n ∧ R2.Perm R ∧ R.countP (fun e => decide (e.x.key ≤ key)) = 0) ∨
    ∃ j R3, j < n ∧ j ≠ k ∧ m = ent ks j ∧ R2.Perm (ue key k n :: R3) ∧ R.Perm (m :: R3) ∧ ks.getD j 0 ≤ key := by
  by_cases he : m = ue key k n
  · subst he
    refine .inl ⟨rfl, hp.cons_inv.symm, List.countP_eq_zero.2 fun e hmem => ?_⟩
    obtain ⟨j, hj, hk, rfl⟩ := hR e hmem
    have h1 := nbef_iff.1 (hm _ (hp.cons_inv.subset hmem))
    have h2 : ¬ (ks.getD j 0 < key ∨ ks.getD j 0 = key ∧ ((0:Int) < 0 ∨ (0:Int) = 0 ∧ (j:Int) < (n:Int))) := h1
    show ¬ decide (ks.getD j 0 ≤ key) = true
    rw [decide_eq_true_eq]
    omega
  · have hmR : m ∈ R := (List.mem_cons.1 (hp.symm.subset (List.mem_cons_self))).resolve_left he
    obtain ⟨j, hj, hk, rfl⟩ := hR m hmR
    have hu : ue key k n ∈ R2 := (List.mem_cons.1 (hp.subset (List.mem_cons_self))).resolve_left (fun h => he h.symm)
    obtain ⟨s, t, hst⟩ := List.append_of_mem hu
    have h3 : R2.Perm (ue key k n :: (s ++ t)) := by rw [hst]; exact List.perm_middle
    have h4 : R.Perm (ent ks j :: (s ++ t)) := ((hp.trans (h3.cons _)).trans (List.Perm.swap _ _ _)).cons_inv
    refine .inr ⟨j, s ++ t, hj, hk, rfl, h3, h4, ?_⟩
    have h1 := nbef_iff.1 (hm _ hu)
    have h2 : ¬ (key < ks.getD j 0 ∨ key = ks.getD j 0 ∧ ((0:Int) < 0 ∨ (0:Int) = 0 ∧ (n:Int) < (j:Int))) := h1
    omega
end Go.Proofs.Ytepfbhigeghjjaa.Q
