/- PqueuePlays: what the two queues have in common behind each operation. Plain. -/
import Derived.Test.YtepfbhigeghjjaaQ5
namespace Go.Proofs.Ytepfbhigeghjjaa.Q
open Go.RowKit
set_option linter.unusedVariables false
set_option linter.unusedSimpArgs false
set_option linter.unusedSectionVars false
structure PI {α : Type} (S es : List (En α)) (nx ck : Int) (i : Nat) : Prop where
  p : es.Perm S
  hn : (S.map (·.h)).Nodup
  hr : ∀ e ∈ S, e.h < nx
  tn : (S.map (·.t)).Nodup
  tr : ∀ e ∈ S, e.t < ck
  nx0 : 0 ≤ nx
  nx1 : nx ≤ i
  ck0 : 0 ≤ ck
  ck1 : ck ≤ i
  len : S.length ≤ i
section
variable {α : Type}
theorem PI.start : PI ([] : List (En α)) [] 0 0 0 := ⟨List.Perm.refl _, by simp, by simp, by simp, by simp, by simp, by simp, by simp, by simp, by simp⟩
theorem PI.next {S es : List (En α)} {nx ck : Int} {i : Nat} (h : PI S es nx ck i) : PI S es nx ck (i + 1) :=
  ⟨h.p, h.hn, h.hr, h.tn, h.tr, h.nx0, by have := h.nx1; omega, h.ck0, by have := h.ck1; omega, by have := h.len; omega⟩
theorem PI.push {S es : List (En α)} {nx ck : Int} {i : Nat} (h : PI S es nx ck i) (x : α) : PI (⟨x, nx, ck⟩ :: S) (es ++ [⟨x, nx, ck⟩]) (nx + 1) (ck + 1) (i + 1) := by
  have := h.nx0
  have := h.nx1
  have := h.ck0
  have := h.ck1
  have := h.len
  refine ⟨List.perm_append_comm.trans (h.p.cons _), ?_, ?_, ?_, ?_, by omega, by omega, by omega, by omega, by simp; omega⟩
  · simp only [List.map_cons, List.nodup_cons]
    refine ⟨fun hm => ?_, h.hn⟩
    obtain ⟨e, he, h1⟩ := List.mem_map.1 hm
    have := h.hr e he
    omega
  · intro e he
    rcases List.mem_cons.1 he with rfl | he
    · show nx < nx + 1; omega
    · have := h.hr e he; omega
  · simp only [List.map_cons, List.nodup_cons]
    refine ⟨fun hm => ?_, h.tn⟩
    obtain ⟨e, he, h1⟩ := List.mem_map.1 hm
    have := h.tr e he
    omega
  · intro e he
    rcases List.mem_cons.1 he with rfl | he
    · show ck < ck + 1; omega
    · have := h.tr e he; omega
theorem perm_erase {es : List (En α)} {n : Nat} {e : En α} (hn : es[n]? = some e) : es.Perm (e :: es.eraseIdx n) := by
  obtain ⟨hl, he⟩ := List.getElem?_eq_some_iff.1 hn
  have h1 : es = es.take n ++ e :: es.drop (n + 1) := by
    rw [← he, ← List.drop_eq_getElem_cons hl, List.take_append_drop]
  rw [List.eraseIdx_eq_take_drop_succ]
  exact (List.Perm.of_eq h1).trans List.perm_middle
theorem perm_set {es : List (En α)} {n : Nat} {e : En α} (hn : es[n]? = some e) (a : En α) : (es.set n a).Perm (a :: es.eraseIdx n) := by
  have hl := (List.getElem?_eq_some_iff.1 hn).1
  have h2 : (es.set n a).eraseIdx n = es.eraseIdx n := by
    rw [List.eraseIdx_eq_take_drop_succ, List.eraseIdx_eq_take_drop_succ, List.take_set, List.drop_set, if_pos (by omega), List.set_eq_of_length_le (by simp; omega)]
  have h1 := perm_erase (es := es.set n a) (n := n) (e := a) (by simp [hl])
  rwa [h2] at h1
theorem PI.sub {S es R : List (En α)} {nx ck : Int} {i : Nat} {m : En α} (h : PI S es nx ck i) (hp : S.Perm (m :: R)) : (∀ e ∈ R, e.h ≠ m.h) ∧ (∀ e ∈ R, e.t ≠ m.t) ∧ (R.map (·.h)).Nodup ∧ (R.map (·.t)).Nodup ∧ (∀ e ∈ R, e.h < nx ∧ e.t < ck) ∧ R.length ≤ i ∧ m.h < nx ∧ m.t < ck := by
  have h1 := (hp.map (·.h)).nodup_iff.1 h.hn
  have h2 := (hp.map (·.t)).nodup_iff.1 h.tn
  simp only [List.map_cons, List.nodup_cons] at h1 h2
  have h3 := hp.length_eq
  have h4 := h.len
  simp only [List.length_cons] at h3
  refine ⟨fun e he h5 => h1.1 (List.mem_map.2 ⟨e, he, h5⟩), fun e he h5 => h2.1 (List.mem_map.2 ⟨e, he, h5⟩), h1.2, h2.2, fun e he => ⟨h.hr e (hp.symm.subset (List.mem_cons_of_mem _ he)), h.tr e (hp.symm.subset (List.mem_cons_of_mem _ he))⟩, by omega, h.hr m (hp.symm.subset List.mem_cons_self), h.tr m (hp.symm.subset List.mem_cons_self)⟩
theorem PI.pop {S es R : List (En α)} {nx ck : Int} {i n : Nat} {m : En α} (h : PI S es nx ck i) (hp : S.Perm (m :: R)) (hn : es[n]? = some m) : PI R (es.eraseIdx n) nx ck (i + 1) := by
  obtain ⟨_, _, k3, k4, k5, k6, _⟩ := h.sub hp
  have := h.nx1
  have := h.ck1
  refine ⟨?_, k3, fun e he => (k5 e he).1, k4, fun e he => (k5 e he).2, h.nx0, by omega, h.ck0, by omega, by omega⟩
  exact ((perm_erase hn).symm.trans (h.p.trans hp)).cons_inv
theorem PI.upd {S es R : List (En α)} {nx ck hd : Int} {i n : Nat} {m e : En α} (h : PI S es nx ck i) (hp : S.Perm (m :: R)) (hn : es[n]? = some e) (hm : m.h = hd) (he : e.h = hd) (x : α) : PI (⟨x, hd, ck⟩ :: R) (es.set n ⟨x, hd, ck⟩) nx (ck + 1) (i + 1) := by
  obtain ⟨k1, k2, k3, k4, k5, k6, k7, k8⟩ := h.sub hp
  have := h.nx1
  have := h.ck0
  have := h.ck1
  have hem : e = m := by
    rcases List.mem_cons.1 ((h.p.trans hp).subset (List.mem_of_getElem? hn)) with h1 | h1
    · exact h1
    · exact absurd (he.trans hm.symm) (k1 e h1)
  subst hem
  have hR : (es.eraseIdx n).Perm R := ((perm_erase hn).symm.trans (h.p.trans hp)).cons_inv
  have hlen := hp.length_eq
  have := h.len
  refine ⟨(perm_set hn _).trans (hR.cons _), ?_, ?_, ?_, ?_, h.nx0, by omega, by omega, by omega, by simp at hlen ⊢; omega⟩
  · simp only [List.map_cons, List.nodup_cons]
    refine ⟨fun h1 => ?_, k3⟩
    obtain ⟨e', h2, h3⟩ := List.mem_map.1 h1
    exact k1 e' h2 (h3.trans hm.symm)
  · intro e' he'
    rcases List.mem_cons.1 he' with rfl | he'
    · show hd < nx; omega
    · exact (k5 e' he').1
  · simp only [List.map_cons, List.nodup_cons]
    refine ⟨fun h1 => ?_, k4⟩
    obtain ⟨e', h2, h3⟩ := List.mem_map.1 h1
    have := (k5 e' h2).2
    omega
  · intro e' he'
    rcases List.mem_cons.1 he' with rfl | he'
    · show ck < ck + 1; omega
    · have := (k5 e' he').2; omega
variable [Cells α] [Lt α]
/-- The two queues' first elements are one. -/
theorem PI.min {S es R : List (En α)} {nx ck : Int} {i n : Nat} {m e : En α} (h : PI S es nx ck i) (hp : S.Perm (m :: R)) (hm : ∀ x ∈ R, bef x m = false) (hn : es[n]? = some e) (he : ∀ x ∈ es, bef x e = false) : e = m := by
  rcases List.mem_cons.1 ((h.p.trans hp).subset (List.mem_of_getElem? hn)) with h1 | h1
  · exact h1
  · have h2 := hm e h1
    have h3 := he m ((h.p.trans hp).symm.subset List.mem_cons_self)
    have h4 := (h.sub hp).2.1 e h1
    rw [nbef_iff] at h2 h3
    omega
theorem PI.none {S es : List (En α)} {nx ck : Int} {i : Nat} (h : PI S es nx ck i) : es = [] ↔ S = [] :=
  ⟨fun h1 => by have := h.p; rw [h1] at this; exact this.symm.eq_nil, fun h1 => by have := h.p; rw [h1] at this; exact this.eq_nil⟩
end
theorem rangeAt_below {w W : World} {b o : Nat} {cs : List Value} (h : w.rangeAt b o cs) (hb : Below w.heap.size w W) : W.rangeAt b o cs := fun j v hv => (hb.cell (World.block_lt_of_cell? w _ (h j v hv))).trans (h j v hv)
end Go.Proofs.Ytepfbhigeghjjaa.Q
