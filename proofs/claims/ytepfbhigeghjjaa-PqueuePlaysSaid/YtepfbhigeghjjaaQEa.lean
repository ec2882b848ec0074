/- The queue at E28 as its callers see it. -/
import Derived.Test.YtepfbhigeghjjaaQEn
import Derived.Test.YtepfbhigeghjjaaQEp
import Derived.Test.YtepfbhigeghjjaaQEo
import Derived.Test.YtepfbhigeghjjaaQ5
import Derived.Test.YtepfbhigeghjjaaQEw
namespace Go.Proofs.Ytepfbhigeghjjaa.Q
open Go.RowKit Go.Proofs.YtepfbhigeghjjaaW.PrintLast
set_option linter.unusedVariables false
set_option linter.unusedSimpArgs false

theorem newA_E {B : Nat} (w : World) (hB : B ≤ w.heap.size) : Calls Try.prog 26 #[lessE] w (NewA (α := E28) 90 92 lessE B w) :=
  (new_E w hB).mono fun r w' ⟨g, mb, hr, hq, hb, _, _⟩ => ⟨g, hr, ⟨_, mb, [], hq, fun c _ hc => absurd hc (by simp), List.Perm.refl _⟩, hb⟩
theorem pushA_E {B : Nat} {w : World} {g : Nat} {S : List (En E28)} {nx ck : Int} (h : QA 90 92 lessE B w g S nx ck) (hnx : ∀ e ∈ S, e.h ≠ nx) (hn0 : 0 ≤ nx) (hn1 : nx ≤ 1000000000) (hc0 : 0 ≤ ck) (hc1 : ck ≤ 1000000000) (hlen : S.length < 1000000000) (x : E28) :
    Calls Try.prog 28 #[.pointer (some ⟨g, 0, none⟩), .agg #[.int .i64 x.key, .int .i64 x.id]] w (PushA 90 92 lessE B w g S nx ck x) := by
  obtain ⟨hv, mb, es, hq, hh, hp⟩ := h
  refine (push_E hq hh (fun e he => hnx e (hp.subset he)) hn0 hn1 hc0 hc1 (by rw [hp.length_eq]; exact hlen) x).mono fun r w' ⟨hr, hv', es', hq', hp', hh', he', _⟩ => ?_
  exact ⟨hr, ⟨hv', mb, es', hq', hh', hp'.trans (List.perm_append_comm.trans (hp.cons _))⟩, hq.effT he'⟩
theorem popA_E {B : Nat} {w : World} {g : Nat} {S : List (En E28)} {nx ck : Int} (h : QA 90 92 lessE B w g S nx ck) (hne : S ≠ []) (hlen : S.length ≤ 1000000000) :
    Calls Try.prog 29 #[.pointer (some ⟨g, 0, none⟩)] w (PopA 90 92 lessE B w g S nx ck) := by
  obtain ⟨hv, mb, es, hq, hh, hp⟩ := h
  have hl : 0 < es.length := by rw [hp.length_eq]; exact List.length_pos_iff.2 hne
  refine (pop_E hq hh es[0] (List.getElem?_eq_getElem hl) (by rw [hp.length_eq]; exact hlen)).mono fun r w' ⟨hr, hv', es', hq', hp', hh', he', _⟩ => ?_
  exact ⟨es[0], es', hr, hp.symm.trans hp', heap_min hh (List.getElem?_eq_getElem hl) hp', ⟨hv', mb, es', hq', hh', List.Perm.refl _⟩, hq.effT he'⟩
theorem popNoneA_E {B : Nat} {w : World} {g : Nat} {nx ck : Int} (h : QA 90 92 lessE B w g ([] : List (En E28)) nx ck) :
    Calls Try.prog 29 #[.pointer (some ⟨g, 0, none⟩)] w (SameA 90 92 lessE B w g ([] : List (En E28)) nx ck (.tuple #[.agg #[.int .i64 0, .int .i64 0], .bool false])) := by
  have h0 := h
  obtain ⟨hv, mb, es, hq, hh, hp⟩ := h
  obtain rfl := hp.eq_nil
  exact (popNone_E hq).mono fun r w' ⟨hr, hb⟩ => ⟨hr, h0.eff hb, EffT.of_below hb⟩

theorem peekA_E {B : Nat} {w : World} {g : Nat} {S : List (En E28)} {nx ck : Int} (h : QA 90 92 lessE B w g S nx ck) (hne : S ≠ []) :
    Calls Try.prog 33 #[.pointer (some ⟨g, 0, none⟩)] w (PeekA 90 92 lessE B w g S nx ck) := by
  have h0 := h
  obtain ⟨hv, mb, es, hq, hh, hp⟩ := h
  have hl : 0 < es.length := by rw [hp.length_eq]; exact List.length_pos_iff.2 hne
  refine (peek_E hq es[0] (List.getElem?_eq_getElem hl)).mono fun r w' ⟨hr, hb⟩ => ?_
  have hs : es.Perm (es[0] :: es.drop 1) := by
    have := List.drop_eq_getElem_cons hl
    rw [List.drop_zero] at this
    rw [← this]
  exact ⟨es[0], es.drop 1, hr, hp.symm.trans hs, heap_min hh (List.getElem?_eq_getElem hl) hs, h0.eff hb, EffT.of_below hb⟩
theorem peekNoneA_E {B : Nat} {w : World} {g : Nat} {nx ck : Int} (h : QA 90 92 lessE B w g ([] : List (En E28)) nx ck) :
    Calls Try.prog 33 #[.pointer (some ⟨g, 0, none⟩)] w (SameA 90 92 lessE B w g ([] : List (En E28)) nx ck (.tuple #[.agg #[.int .i64 0, .int .i64 0], .bool false])) := by
  have h0 := h
  obtain ⟨hv, mb, es, hq, hh, hp⟩ := h
  obtain rfl := hp.eq_nil
  exact (peekNone_E hq).mono fun r w' ⟨hr, hb⟩ => ⟨hr, h0.eff hb, EffT.of_below hb⟩
theorem lenA_E {B : Nat} {w : World} {g : Nat} {S : List (En E28)} {nx ck : Int} (h : QA 90 92 lessE B w g S nx ck) :
    Calls Try.prog 31 #[.pointer (some ⟨g, 0, none⟩)] w fun r w' => r = .returned (.int .i64 S.length) ∧ w' = w := by
  obtain ⟨hv, mb, es, hq, hh, hp⟩ := h
  rw [← hp.length_eq]
  exact len_E hq
theorem updA_E {B : Nat} {w : World} {g : Nat} {S R : List (En E28)} {nx ck : Int} (h : QA 90 92 lessE B w g S nx ck) (e : En E28) (hS : S.Perm (e :: R)) (k : Int) (hk : e.h = k) (hc0 : 0 ≤ ck) (hc1 : ck ≤ 1000000000) (hlen : S.length ≤ 1000000000) (x : E28) :
    Calls Try.prog 30 #[.pointer (some ⟨g, 0, none⟩), .int .i64 k, .agg #[.int .i64 x.key, .int .i64 x.id]] w (UpdA 90 92 lessE B w g R nx ck k x) := by
  obtain ⟨hv, mb, es, hq, hh, hp⟩ := h
  obtain ⟨i, hi⟩ := List.getElem?_of_mem (hp.symm.subset (hS.symm.subset (List.mem_cons_self (a := e) (l := R))))
  refine (upd_E hq hh i e hi k hk hc0 hc1 (by rw [hp.length_eq]; exact hlen) x).mono fun r w' ⟨hr, es', hq', hp', hh', he'⟩ => ?_
  refine ⟨hr, ⟨hv, mb, es', hq', hh', hp'.trans (set_perm hi (hp.trans hS))⟩, hq.effT he'⟩
theorem updNoneA_E {B : Nat} {w : World} {g : Nat} {S : List (En E28)} {nx ck : Int} (h : QA 90 92 lessE B w g S nx ck) (k : Int) (hk : ∀ e ∈ S, e.h ≠ k) (x : E28) :
    Calls Try.prog 30 #[.pointer (some ⟨g, 0, none⟩), .int .i64 k, .agg #[.int .i64 x.key, .int .i64 x.id]] w (SameA 90 92 lessE B w g S nx ck (.bool false)) := by
  have h0 := h
  obtain ⟨hv, mb, es, hq, hh, hp⟩ := h
  exact (updNone_E hq k (hidx_none.2 (fun e he => hk e (hp.subset he))) x).mono fun r w' ⟨hr, hb⟩ => ⟨hr, h0.eff hb, EffT.of_below hb⟩
end Go.Proofs.Ytepfbhigeghjjaa.Q
