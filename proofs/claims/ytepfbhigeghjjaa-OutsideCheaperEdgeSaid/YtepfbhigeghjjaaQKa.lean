/- The queue at K.K3 as its callers see it. -/
import Derived.Test.YtepfbhigeghjjaaQKn
import Derived.Test.YtepfbhigeghjjaaQKp
import Derived.Test.YtepfbhigeghjjaaQKo
import Derived.Test.YtepfbhigeghjjaaQ5
namespace Go.Proofs.Ytepfbhigeghjjaa.Q
open Go.RowKit Go.Proofs.YtepfbhigeghjjaaW.PrintLast
set_option linter.unusedVariables false
set_option linter.unusedSimpArgs false

theorem newA_K {B : Nat} (w : World) (hB : B ≤ w.heap.size) : Calls Try.prog 77 #[lessK] w (NewA (α := K.K3) 131 135 lessK B w) :=
  (new_K w hB).mono fun r w' ⟨g, mb, hr, hq, hb, _, _⟩ => ⟨g, hr, ⟨_, mb, [], hq, fun c _ hc => absurd hc (by simp), List.Perm.refl _⟩, hb⟩
theorem pushA_K {B : Nat} {w : World} {g : Nat} {S : List (En K.K3)} {nx ck : Int} (h : QA 131 135 lessK B w g S nx ck) (hnx : ∀ e ∈ S, e.h ≠ nx) (hn0 : 0 ≤ nx) (hn1 : nx ≤ 1000000000) (hc0 : 0 ≤ ck) (hc1 : ck ≤ 1000000000) (hlen : S.length < 1000000000) (x : K.K3) :
    Calls Try.prog 94 #[.pointer (some ⟨g, 0, none⟩), .agg #[.int .i64 x.node, .int .i64 x.c, .int .i64 x.s]] w (PushA 131 135 lessK B w g S nx ck x) := by
  obtain ⟨hv, mb, es, hq, hh, hp⟩ := h
  refine (push_K hq hh (fun e he => hnx e (hp.subset he)) hn0 hn1 hc0 hc1 (by rw [hp.length_eq]; exact hlen) x).mono fun r w' ⟨hr, hv', es', hq', hp', hh', he', _⟩ => ?_
  exact ⟨hr, ⟨hv', mb, es', hq', hh', hp'.trans (List.perm_append_comm.trans (hp.cons _))⟩, hq.effT he'⟩
theorem popA_K {B : Nat} {w : World} {g : Nat} {S : List (En K.K3)} {nx ck : Int} (h : QA 131 135 lessK B w g S nx ck) (hne : S ≠ []) (hlen : S.length ≤ 1000000000) :
    Calls Try.prog 80 #[.pointer (some ⟨g, 0, none⟩)] w (PopA 131 135 lessK B w g S nx ck) := by
  obtain ⟨hv, mb, es, hq, hh, hp⟩ := h
  have hl : 0 < es.length := by rw [hp.length_eq]; exact List.length_pos_iff.2 hne
  refine (pop_K hq hh es[0] (List.getElem?_eq_getElem hl) (by rw [hp.length_eq]; exact hlen)).mono fun r w' ⟨hr, hv', es', hq', hp', hh', he', _⟩ => ?_
  exact ⟨es[0], es', hr, hp.symm.trans hp', heap_min hh (List.getElem?_eq_getElem hl) hp', ⟨hv', mb, es', hq', hh', List.Perm.refl _⟩, hq.effT he'⟩
theorem popNoneA_K {B : Nat} {w : World} {g : Nat} {nx ck : Int} (h : QA 131 135 lessK B w g ([] : List (En K.K3)) nx ck) :
    Calls Try.prog 80 #[.pointer (some ⟨g, 0, none⟩)] w (SameA 131 135 lessK B w g ([] : List (En K.K3)) nx ck (.tuple #[.agg #[.int .i64 0, .int .i64 0, .int .i64 0], .bool false])) := by
  have h0 := h
  obtain ⟨hv, mb, es, hq, hh, hp⟩ := h
  obtain rfl := hp.eq_nil
  exact (popNone_K hq).mono fun r w' ⟨hr, hb⟩ => ⟨hr, h0.eff hb, EffT.of_below hb⟩
end Go.Proofs.Ytepfbhigeghjjaa.Q
