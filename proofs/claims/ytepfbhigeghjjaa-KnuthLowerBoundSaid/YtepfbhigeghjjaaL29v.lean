/- KnuthSolve: the walk. -/
import Derived.Test.YtepfbhigeghjjaaKRc
import Derived.Test.YtepfbhigeghjjaaKA
namespace Go.Proofs.Ytepfbhigeghjjaa.Q
open Go.RowKit Go.Proofs.YtepfbhigeghjjaaW.PrintLast
set_option linter.unusedVariables false
set_option linter.unusedSimpArgs false
def TruePost (w : World) (r : Ending) (w' : World) : Prop := r = .returned (.bool true) ∧ Below w.heap.size w w'
set_option maxHeartbeats 4000000 in
set_option maxRecDepth 100000 in
theorem solve_walk (n : Int) (A : Option Addr) (cap : Nat) (es : List REd) (w : World) (hA : EdsIn w A es) : Calls Try.prog 13 #[.agg #[.int .i64 n, .slice A es.length cap]] w (TruePost w) := by
  have AW := Lib.hid awake44
  have HA := Lib.hid hA
  clear hA
  obtain ⟨W1, hW1⟩ : ∃ W, W = w.alloc (.cells #[.int .i64 n, .slice A es.length cap] 48) := ⟨_, rfl⟩
  obtain ⟨hb, hhb⟩ : ∃ b, b = w.heap.size := ⟨_, rfl⟩
  have B1 : Hid (Below w.heap.size w W1) := by rw [hW1]; exact (Below.refl _ _).alloc (Nat.le_refl _) _
  have H1 : Hid (HBZ W1 hb n es.length cap A) := by show W1.heap[hb]? = _; rw [hW1, hhb]; exact heap_alloc_new w _
  have HW1 := Lib.hid (And.intro hW1 hhb)
  have CS := Lib.hid (bounded49 (cap := cap) n es (HA.out.below B1.out))
  clear hW1 hhb
  go_enter Try.func13, Try.ntmps13
  go_wp2_with fail
  rw [← HW1.out.1, ← HW1.out.2]
  with_reducible refine CS.out.mono ?_
  rintro r w2 ⟨b, rfl, hb2, b2⟩
  have B2 : Hid (Below w.heap.size w w2) := B1.out.trans (b2.mono B1.out.size)
  have H2 := Lib.hid (H1.out.bel b2)
  have SM := Lib.hid hb2
  clear b2 hb2 H1 B1 HW1 CS
  cases b with
  | false =>
    go_wp2_with fail
    with_reducible refine (AW.out _).mono ?_
    rintro r w3 ⟨rfl, b3⟩
    have B3 : Hid (Below w.heap.size w w3) := B2.out.trans (b3.mono B2.out.size)
    clear b3
    go_wp2_with fail
    go_ret
    exact ⟨rfl, B3.out⟩
  | true =>
    obtain ⟨m, v0, f0, hm⟩ := SM.out rfl
    obtain ⟨⟨rfl, h1, h30, h60, hok⟩, _, _⟩ := hm
    have HOK := Lib.hid hok
    have C50 := Lib.hid (solve50 (ecap := cap) (HA.out.below B2.out) hok (by omega) (by omega))
    obtain ⟨y0, y1⟩ := H2.out.c
    clear SM hok
    go_wp2_with fail
    with_reducible refine C50.out.mono ?_
    rintro r w3 ⟨bv, be, v, f, rfl, hs, hv, hf, b3, _, _⟩
    have B3 : Hid (Below w.heap.size w w3) := B2.out.trans (b3.mono B2.out.size)
    have H3 := Lib.hid (H2.out.bel b3)
    have S3 := Lib.hid (And.intro hs (And.intro hv hf))
    clear b3 hv hs hf y0 y1 C50 H2
    have C51 := Lib.hid (solve51 (ecap := cap) (HA.out.below B3.out) HOK.out (by omega) (by omega))
    obtain ⟨y0, y1⟩ := H3.out.c
    go_wp2_with fail
    with_reducible refine C51.out.mono ?_
    rintro r w4 ⟨bv', be', v', f', rfl, hs, hv, hf, b4, _, _⟩
    have B4 : Hid (Below w.heap.size w w4) := B3.out.trans (b4.mono B3.out.size)
    have U : ∀ i, i < m → v' i = v i ∧ f' i = f i := fun i hi => hs.unique (edges_ok HOK.out) S3.out.1 i hi
    have S4 : Hid (ValsAt w4 bv m v ∧ w4.rowIs be 3 m (fun i => .int .i64 (f i)) ∧ ValsAt w4 bv' m v ∧ w4.rowIs be' 3 m (fun i => .int .i64 (f i))) :=
      ⟨S3.out.2.1.bel b4, row_below S3.out.2.2 b4, hv.congr (fun i hi => (U i hi).1), hf.congr (fun i hi => by rw [(U i hi).2])⟩
    clear b4 hv hs hf y0 y1 C51 H3 U S3
    go_wp2_with fail
    with_reducible refine (AW.out _).mono ?_
    rintro r w5 ⟨rfl, b5⟩
    have B5 : Hid (Below w.heap.size w w5) := B4.out.trans (b5.mono B4.out.size)
    have S5 : Hid (ValsAt w5 bv m v ∧ w5.rowIs be 3 m (fun i => .int .i64 (f i)) ∧ ValsAt w5 bv' m v ∧ w5.rowIs be' 3 m (fun i => .int .i64 (f i))) :=
      ⟨S4.out.1.bel b5, row_below S4.out.2.1 b5, S4.out.2.2.1.bel b5, row_below S4.out.2.2.2 b5⟩
    clear b5 S4
    go_wp2_with fail
    with_reducible refine (same_vals S5.out.1 S5.out.2.2.1 (by omega)).mono ?_
    rintro r w6 ⟨rfl, b6⟩
    have B6 : Hid (Below w.heap.size w w6) := B5.out.trans (b6.mono B5.out.size)
    have S6 : Hid (w6.rowIs be 3 m (fun i => .int .i64 (f i)) ∧ w6.rowIs be' 3 m (fun i => .int .i64 (f i))) := ⟨row_below S5.out.2.1 b6, row_below S5.out.2.2.2 b6⟩
    clear b6 S5
    go_wp2_with fail
    with_reducible refine (same_ints S6.out.1 S6.out.2 (by omega)).mono ?_
    rintro r w7 ⟨rfl, b7⟩
    have B7 : Hid (Below w.heap.size w w7) := B6.out.trans (b7.mono B6.out.size)
    clear b7 S6
    go_wp2_with fail
    go_ret
    exact ⟨rfl, B7.out⟩
end Go.Proofs.Ytepfbhigeghjjaa.Q
