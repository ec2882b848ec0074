/- The example of chapter 33 holds. Short, small, Reachable. What the laws of chapter 33 share. -/
import Derived.Test.YtepfbhigeghjjaaO33x
import Derived.Test.YtepfbhigeghjjaaK56
import Derived.Test.YtepfbhigeghjjaaKS
import Derived.Test.YtepfbhigeghjjaaKRx
namespace Go.Proofs.Ytepfbhigeghjjaa.Q
open Go.RowKit Go.Proofs.YtepfbhigeghjjaaW.PrintLast
set_option linter.unusedVariables false
set_option linter.unusedSimpArgs false

/-- The example as it lies in memory. -/
def ex33 (p q : Nat) : List REd := [⟨some ⟨p, 0, none⟩, 2, 0, [1, 2], 1, 0, 0⟩, ⟨none, 0, 1, [], 2, 0, 0⟩, ⟨none, 0, 2, [], 3, 0, 0⟩, ⟨some ⟨q, 0, none⟩, 1, 0, [2], 9, 0, 0⟩]
theorem ex33_plain (p q : Nat) : (ex33 p q).map REd.plain = K.E33 := rfl
theorem ex33_ok (p q : Nat) : ∀ e ∈ ex33 p q, e.ok 3 := by
  intro e he
  simp only [ex33, List.mem_cons, List.not_mem_nil, or_false] at he
  rcases he with rfl | rfl | rfl | rfl <;> (unfold REd.ok; simp; try decide)
def Ex33Post (w : World) (r : Ending) (w' : World) : Prop :=
  ∃ b p q, r = .returned (.agg #[.int .i64 3, .slice (some ⟨b, 0, none⟩) 4 4]) ∧ EdsIn w' (some ⟨b, 0, none⟩) (ex33 p q) ∧ Below w.heap.size w w'
set_option maxHeartbeats 2000000 in
set_option maxRecDepth 100000 in
theorem example70 (w : World) : Calls Try.prog 70 #[] w (Ex33Post w) := by
  go_enter Try.func70, Try.ntmps70
  go_wp2_with fail
  have F := four_alloc w (.cells #[.int .i64 3, .slice (some ⟨w.heap.size + 1 + 1 + 1, 0, none⟩) 4 4] 48) (.cells #[.int .i64 1, .int .i64 2] 3) (.cells #[.int .i64 2] 3)
    (.cells #[.int .i64 0, .slice (some ⟨w.heap.size + 1, 0, none⟩) 2 2, .int .i64 1, .int .i64 0, .int .i64 0, .int .i64 1, .slice none 0 0, .int .i64 2, .int .i64 0, .int .i64 0, .int .i64 2, .slice none 0 0, .int .i64 3, .int .i64 0, .int .i64 0, .int .i64 0, .slice (some ⟨w.heap.size + 1 + 1, 0, none⟩) 1 1, .int .i64 9, .int .i64 0, .int .i64 0] 60)
  obtain ⟨f1, f2, f3, f4, f5⟩ := F
  have s1 : ∀ o, (w.alloc o).heap.size = w.heap.size + 1 := fun o => by simp
  have s2 : ∀ o o', ((w.alloc o).alloc o').heap.size = w.heap.size + 1 + 1 := fun o o' => by simp
  have s3 : ∀ o o' o'', (((w.alloc o).alloc o').alloc o'').heap.size = w.heap.size + 1 + 1 + 1 := fun o o' o'' => by simp
  rw [s1] at f2
  rw [s2] at f3
  rw [s3] at f4
  refine bodyPost_ret (res_c rfl _ _ w.heap.size [.int .i64 3, .slice (some ⟨w.heap.size + 1 + 1 + 1, 0, none⟩) 4 4] (by rfl) ?_ Try.underlying48 rfl (by kernel_rfl)) rfl ?_
  · exact box_range (L := [.int .i64 3, .slice (some ⟨w.heap.size + 1 + 1 + 1, 0, none⟩) 4 4]) f1 0 _ (fun j v h => by rw [Nat.zero_add]; exact h)
  · refine ⟨w.heap.size + 1 + 1 + 1, w.heap.size + 1, w.heap.size + 1 + 1, rfl, ⟨fun j e he => ⟨_, 0, rfl, ?_⟩, fun e he => ?_⟩, f5.below (fun _ h => h.elim)⟩
    · intro i v hv
      have hj : j < 4 := (List.getElem?_eq_some_iff.1 he).1
      simp only [World.cell?, f4, Nat.zero_add]
      have : j = 0 ∨ j = 1 ∨ j = 2 ∨ j = 3 := by omega
      rcases this with rfl | rfl | rfl | rfl <;>
      · cases he
        have hi : i < 5 := (List.getElem?_eq_some_iff.1 hv).1
        have : i = 0 ∨ i = 1 ∨ i = 2 ∨ i = 3 ∨ i = 4 := by omega
        rcases this with rfl | rfl | rfl | rfl | rfl <;> (cases hv; rfl)
    · simp only [ex33, List.mem_cons, List.not_mem_nil, or_false] at he
      rcases he with rfl | rfl | rfl | rfl
      · intro j t ht
        refine ⟨w.heap.size + 1, 0, rfl, ?_⟩
        have hj : j < 2 := (List.getElem?_eq_some_iff.1 ht).1
        simp only [World.cell?, f2, Nat.zero_add]
        have : j = 0 ∨ j = 1 := by omega
        rcases this with rfl | rfl <;> (cases ht; rfl)
      · intro j t ht; simp at ht
      · intro j t ht; simp at ht
      · intro j t ht
        refine ⟨w.heap.size + 1 + 1, 0, rfl, ?_⟩
        have hj : j < 1 := (List.getElem?_eq_some_iff.1 ht).1
        simp only [World.cell?, f3, Nat.zero_add]
        obtain rfl : j = 0 := by omega
        cases ht
        rfl

theorem same_a {w : World} {b : Nat} {g : Nat → Int} (h : w.rowIs b 3 3 (intRow g)) (hg : g 0 = 0 ∧ g 1 = 4 ∧ g 2 = 3) : Calls Try.prog 53 #[.slice (some ⟨b, 0, none⟩) 3 3, .slice (some ⟨w.heap.size, 0, none⟩) 3 3] (w.alloc (.cells #[.int .i64 0, .int .i64 4, .int .i64 3] 3)) fun r w' => r = .returned (.bool true) ∧ Below (w.alloc (.cells #[.int .i64 0, .int .i64 4, .int .i64 3] 3)).heap.size (w.alloc (.cells #[.int .i64 0, .int .i64 4, .int .i64 3] 3)) w' := by
  obtain ⟨g0, g1, g2⟩ := hg
  have h2 := row_below h ((Below.refl w.heap.size w).alloc (Nat.le_refl _) (.cells #[.int .i64 0, .int .i64 4, .int .i64 3] 3))
  have hX := heap_alloc_new w (.cells #[.int .i64 0, .int .i64 4, .int .i64 3] 3)
  refine same53 (ca := 3) (cb := 3) [0, 4, 3] (fun j y hy => ?_) (fun j y hy => ?_) (by decide)
  · have hj : j < 3 := (List.getElem?_eq_some_iff.1 hy).1
    have h3 := h2.cell hj
    refine ⟨_, 0, rfl, ?_⟩
    rw [Nat.zero_add, h3]
    have : j = 0 ∨ j = 1 ∨ j = 2 := by omega
    rcases this with rfl | rfl | rfl <;> (cases hy; simp only [intRow, g0, g1, g2])
  · have hj : j < 3 := (List.getElem?_eq_some_iff.1 hy).1
    refine ⟨_, 0, rfl, ?_⟩
    have : j = 0 ∨ j = 1 ∨ j = 2 := by omega
    rcases this with rfl | rfl | rfl <;> (cases hy; simp only [World.cell?, hX]; rfl)

theorem same_b {w : World} {b : Nat} {g : Nat → Int} (h : w.rowIs b 3 3 (intRow g)) (hg : g 0 = 6 ∧ g 1 = 6 ∧ g 2 = 6) : Calls Try.prog 53 #[.slice (some ⟨b, 0, none⟩) 3 3, .slice (some ⟨w.heap.size, 0, none⟩) 3 3] (w.alloc (.cells #[.int .i64 6, .int .i64 6, .int .i64 6] 3)) fun r w' => r = .returned (.bool true) ∧ Below (w.alloc (.cells #[.int .i64 6, .int .i64 6, .int .i64 6] 3)).heap.size (w.alloc (.cells #[.int .i64 6, .int .i64 6, .int .i64 6] 3)) w' := by
  obtain ⟨g0, g1, g2⟩ := hg
  have h2 := row_below h ((Below.refl w.heap.size w).alloc (Nat.le_refl _) (.cells #[.int .i64 6, .int .i64 6, .int .i64 6] 3))
  have hX := heap_alloc_new w (.cells #[.int .i64 6, .int .i64 6, .int .i64 6] 3)
  refine same53 (ca := 3) (cb := 3) [6, 6, 6] (fun j y hy => ?_) (fun j y hy => ?_) (by decide)
  · have hj : j < 3 := (List.getElem?_eq_some_iff.1 hy).1
    have h3 := h2.cell hj
    refine ⟨_, 0, rfl, ?_⟩
    rw [Nat.zero_add, h3]
    have : j = 0 ∨ j = 1 ∨ j = 2 := by omega
    rcases this with rfl | rfl | rfl <;> (cases hy; simp only [intRow, g0, g1, g2])
  · have hj : j < 3 := (List.getElem?_eq_some_iff.1 hy).1
    refine ⟨_, 0, rfl, ?_⟩
    have : j = 0 ∨ j = 1 ∨ j = 2 := by omega
    rcases this with rfl | rfl | rfl <;> (cases hy; simp only [World.cell?, hX]; rfl)

theorem same_c {w : World} {b : Nat} {g : Nat → Int} (h : w.rowIs b 3 4 (intRow g)) (hg : g 0 = 6 ∧ g 1 = 6 ∧ g 2 = 6 ∧ g 3 = 12) : Calls Try.prog 53 #[.slice (some ⟨b, 0, none⟩) 4 4, .slice (some ⟨w.heap.size, 0, none⟩) 4 4] (w.alloc (.cells #[.int .i64 6, .int .i64 6, .int .i64 6, .int .i64 12] 3)) fun r w' => r = .returned (.bool true) ∧ Below (w.alloc (.cells #[.int .i64 6, .int .i64 6, .int .i64 6, .int .i64 12] 3)).heap.size (w.alloc (.cells #[.int .i64 6, .int .i64 6, .int .i64 6, .int .i64 12] 3)) w' := by
  obtain ⟨g0, g1, g2, g3⟩ := hg
  have h2 := row_below h ((Below.refl w.heap.size w).alloc (Nat.le_refl _) (.cells #[.int .i64 6, .int .i64 6, .int .i64 6, .int .i64 12] 3))
  have hX := heap_alloc_new w (.cells #[.int .i64 6, .int .i64 6, .int .i64 6, .int .i64 12] 3)
  refine same53 (ca := 4) (cb := 4) [6, 6, 6, 12] (fun j y hy => ?_) (fun j y hy => ?_) (by decide)
  · have hj : j < 4 := (List.getElem?_eq_some_iff.1 hy).1
    have h3 := h2.cell hj
    refine ⟨_, 0, rfl, ?_⟩
    rw [Nat.zero_add, h3]
    have : j = 0 ∨ j = 1 ∨ j = 2 ∨ j = 3 := by omega
    rcases this with rfl | rfl | rfl | rfl <;> (cases hy; simp only [intRow, g0, g1, g2, g3])
  · have hj : j < 4 := (List.getElem?_eq_some_iff.1 hy).1
    refine ⟨_, 0, rfl, ?_⟩
    have : j = 0 ∨ j = 1 ∨ j = 2 ∨ j = 3 := by omega
    rcases this with rfl | rfl | rfl | rfl <;> (cases hy; simp only [World.cell?, hX]; rfl)

theorem ex33_thr {v : Nat → K.V} {out : Nat → Int} (h : (v 0 = (6, 3) ∧ v 1 = (2, 1) ∧ v 2 = (3, 1)) ∧ out 0 = 0 ∧ out 1 = 4 ∧ out 2 = 3) : fThr (fun i => (v i).1) out 0 = 6 ∧ fThr (fun i => (v i).1) out 1 = 6 ∧ fThr (fun i => (v i).1) out 2 = 6 := by
  obtain ⟨⟨h1, h2, h3⟩, h4, h5, h6⟩ := h
  simp only [fThr, h1, h2, h3, h4, h5, h6]
  decide
theorem ex33_edge {v : Nat → K.V} {out : Nat → Int} (h : (v 0 = (6, 3) ∧ v 1 = (2, 1) ∧ v 2 = (3, 1)) ∧ out 0 = 0 ∧ out 1 = 4 ∧ out 2 = 3) : fEdge K.E33 (fun i => (v i).1) out 0 = 6 ∧ fEdge K.E33 (fun i => (v i).1) out 1 = 6 ∧ fEdge K.E33 (fun i => (v i).1) out 2 = 6 ∧ fEdge K.E33 (fun i => (v i).1) out 3 = 12 := by
  obtain ⟨⟨h1, h2, h3⟩, h4, h5, h6⟩ := h
  refine ⟨?_, ?_, ?_, ?_⟩ <;> (simp only [fEdge, K.E33, List.getElem?_cons_zero, List.getElem?_cons_succ, K.oth, h1, h2, h3, h4, h5, h6]; decide)
set_option maxHeartbeats 8000000 in
set_option maxRecDepth 100000 in
theorem awake38 (w : World) : Calls Try.prog 38 #[] w fun r w' => r = .returned (.bool true) ∧ Below w.heap.size w w' := by
  go_enter Try.func38, Try.ntmps38
  go_wp2_with fail
  refine (example70 w).mono ?_
  rintro r w2 ⟨b, p, q, rfl, hE, b2⟩
  obtain ⟨w4, hw4⟩ : ∃ W, W = w2.alloc (.cells #[.int .i64 3, .slice (some ⟨b, 0, none⟩) 4 4] 48) := ⟨_, rfl⟩
  obtain ⟨hb, hhb⟩ : ∃ c, c = w2.heap.size := ⟨_, rfl⟩
  have B2 := Lib.hid b2
  have HE := Lib.hid hE
  have BB4 : Hid (Below w2.heap.size w2 w4) := by rw [hw4]; exact (Below.refl _ _).alloc (Nat.le_refl _) _
  have HH4 : Hid (HBZ w4 hb 3 4 4 (some ⟨b, 0, none⟩)) := by show w4.heap[hb]? = _; rw [hw4, hhb]; exact heap_alloc_new w2 _
  have HW := Lib.hid (And.intro hw4 hhb)
  clear hE b2 hw4 hhb
  have CA4 : Hid (Calls Try.prog 40 #[.agg #[.int .i64 3, .slice (some ⟨b, 0, none⟩) 4 4], .int .i64 0] w4 (RPost w4 K.E33 3 3 0 fOut)) := outside40 (n := 3) (cap := 4) (es := ex33 p q) 0 (HE.out.below BB4.out) (ex33_ok p q) (by decide) (show (4 : Nat) ≤ 60 by decide)
  go_wp2_with fail
  rw [← HW.out.1, ← HW.out.2]
  clear HW
  with_reducible refine CA4.out.mono ?_
  rintro r w5 ⟨bo, v, f, out, rfl, hs, ho, hr, b4, hg⟩
  have BB5 : Hid (Below w2.heap.size w2 w5) := BB4.out.trans (b4.mono BB4.out.size)
  have HH5 := Lib.hid (HH4.out.bel b4)
  have hx := K.ex33 hs (ho.1 (by decide))
  have CS4 := Lib.hid (same_a hr (hx.2))
  clear hs ho hr b4 hg hx CA4
  go_wp2_with fail
  with_reducible refine CS4.out.mono ?_
  rintro r w6 ⟨rfl, b4⟩
  have al : Below w5.heap.size w5 (w5.alloc (.cells #[.int .i64 0, .int .i64 4, .int .i64 3] 3)) := (Below.refl _ _).alloc (Nat.le_refl _) _
  have BB6 : Hid (Below w2.heap.size w2 w6) := BB5.out.trans ((al.trans (b4.mono al.size)).mono BB5.out.size)
  have HH6 := Lib.hid (HH5.out.bel (al.trans (b4.mono al.size)))
  clear al b4 CS4
  have CA6 : Hid (Calls Try.prog 45 #[.agg #[.int .i64 3, .slice (some ⟨b, 0, none⟩) 4 4], .int .i64 0] w6 (RPost w6 K.E33 3 3 0 fThr)) := through45 (n := 3) (cap := 4) (es := ex33 p q) 0 (HE.out.below BB6.out) (ex33_ok p q) (by decide) (show (4 : Nat) ≤ 60 by decide)
  obtain ⟨y0, y1⟩ := HH6.out.c
  go_wp2_with fail
  with_reducible refine CA6.out.mono ?_
  rintro r w7 ⟨bo, v, f, out, rfl, hs, ho, hr, b6, hg⟩
  have BB7 : Hid (Below w2.heap.size w2 w7) := BB6.out.trans (b6.mono BB6.out.size)
  have HH7 := Lib.hid (HH6.out.bel b6)
  have hx := K.ex33 hs (ho.1 (by decide))
  have CS6 := Lib.hid (same_b hr (ex33_thr hx))
  clear hs ho hr b6 hg hx y0 y1 CA6
  go_wp2_with fail
  with_reducible refine CS6.out.mono ?_
  rintro r w8 ⟨rfl, b6⟩
  have al : Below w7.heap.size w7 (w7.alloc (.cells #[.int .i64 6, .int .i64 6, .int .i64 6] 3)) := (Below.refl _ _).alloc (Nat.le_refl _) _
  have BB8 : Hid (Below w2.heap.size w2 w8) := BB7.out.trans ((al.trans (b6.mono al.size)).mono BB7.out.size)
  have HH8 := Lib.hid (HH7.out.bel (al.trans (b6.mono al.size)))
  clear al b6 CS6
  have CA8 : Hid (Calls Try.prog 59 #[.agg #[.int .i64 3, .slice (some ⟨b, 0, none⟩) 4 4], .int .i64 0] w8 (RPost w8 K.E33 3 4 0 (fEdge K.E33))) := edge59 (n := 3) (cap := 4) (es := ex33 p q) 0 (HE.out.below BB8.out) (ex33_ok p q) (by decide) (show (4 : Nat) ≤ 60 by decide)
  obtain ⟨y0, y1⟩ := HH8.out.c
  go_wp2_with fail
  with_reducible refine CA8.out.mono ?_
  rintro r w9 ⟨bo, v, f, out, rfl, hs, ho, hr, b8, hg⟩
  have BB9 : Hid (Below w2.heap.size w2 w9) := BB8.out.trans (b8.mono BB8.out.size)
  have HH9 := Lib.hid (HH8.out.bel b8)
  have hx := K.ex33 hs (ho.1 (by decide))
  have CS8 := Lib.hid (same_c hr (ex33_edge hx))
  clear hs ho hr b8 hg hx y0 y1 CA8
  go_wp2_with fail
  with_reducible refine CS8.out.mono ?_
  rintro r w10 ⟨rfl, b8⟩
  have al : Below w9.heap.size w9 (w9.alloc (.cells #[.int .i64 6, .int .i64 6, .int .i64 6, .int .i64 12] 3)) := (Below.refl _ _).alloc (Nat.le_refl _) _
  have BB10 : Hid (Below w2.heap.size w2 w10) := BB9.out.trans ((al.trans (b8.mono al.size)).mono BB9.out.size)
  have HH10 := Lib.hid (HH9.out.bel (al.trans (b8.mono al.size)))
  clear al b8 CS8
  go_wp2_with fail
  go_ret
  exact ⟨rfl, B2.out.trans (BB10.out.mono B2.out.size)⟩
end Go.Proofs.Ytepfbhigeghjjaa.Q
namespace Go.Proofs.Ytepfbhigeghjjaa.Q
open Go.RowKit Go.Proofs.YtepfbhigeghjjaaW.PrintLast
set_option linter.unusedVariables false
set_option linter.unusedSimpArgs false

/-- A hypergraph that the statements of chapter 33 speak of. -/
def ShortH (n : Int) (es : List REd) (m : Nat) (v : Nat → K.V) (f : Nat → Int) : Prop := SmallH n es m ∧ K.Sol (es.map REd.plain) m v f ∧ ∀ i, i < m → (v i).2 ≤ 1000
def ShortTo (v : Nat → K.V) (i : Nat) : Prop := ∀ j, j < i → (v j).2 ≤ 1000
set_option maxHeartbeats 4000000 in
set_option maxRecDepth 100000 in
theorem short71 {w : World} {A : Option Addr} {cap : Nat} (n : Int) (es : List REd) (hA : EdsIn w A es) : Calls Try.prog 71 #[.agg #[.int .i64 n, .slice A es.length cap]] w (YesPost w (∃ m v f, ShortH n es m v f)) := by
  have HA := Lib.hid hA
  clear hA
  obtain ⟨W1, hW1⟩ : ∃ W, W = w.alloc (.cells #[.int .i64 n, .slice A es.length cap] 48) := ⟨_, rfl⟩
  obtain ⟨hb, hhb⟩ : ∃ b, b = w.heap.size := ⟨_, rfl⟩
  have B1 : Hid (Below w.heap.size w W1) := by rw [hW1]; exact (Below.refl _ _).alloc (Nat.le_refl _) _
  have H1 : Hid (HBZ W1 hb n es.length cap A) := by show W1.heap[hb]? = _; rw [hW1, hhb]; exact heap_alloc_new w _
  have HW1 := Lib.hid (And.intro hW1 hhb)
  have CS := Lib.hid (small76 (cap := cap) n es (HA.out.below B1.out))
  clear hW1 hhb
  go_enter Try.func71, Try.ntmps71
  go_wp2_with fail
  rw [← HW1.out.1, ← HW1.out.2]
  with_reducible refine CS.out.mono ?_
  rintro r w2 ⟨b, rfl, hb2, b2⟩
  have B2 : Hid (Below w.heap.size w w2) := B1.out.trans (b2.mono B1.out.size)
  have H2 := Lib.hid (H1.out.bel b2)
  have SM := Lib.hid hb2
  clear b2 hb2 H1 B1 HW1 CS
  cases b with
  | false =>
    go_wp2_with fail
    go_ret
    exact ⟨false, rfl, no_, B2.out⟩
  | true =>
    obtain ⟨m, hm⟩ := SM.out rfl
    obtain ⟨rfl, h1, h30, h60, hok⟩ := hm
    have C51 := Lib.hid (solve51 (ecap := cap) (HA.out.below B2.out) hok (by omega) (by omega))
    have HS : Hid (SmallH m es m) := ⟨rfl, h1, h30, h60, hok⟩
    obtain ⟨y0, y1⟩ := H2.out.c
    clear SM hok
    go_wp2_with fail
    with_reducible refine C51.out.mono ?_
    rintro r w3 ⟨bv, be, v, f, rfl, hs, hv, hf, b3, _, _⟩
    have B3 : Hid (Below w.heap.size w w3) := B2.out.trans (b3.mono B2.out.size)
    have HV := Lib.hid hv
    have HSO := Lib.hid hs
    clear b3 hv hs hf y0 y1 C51
    go_wp2_with fail
    go_loopg [5] m (fun gk s5 wr => ∃ i : Nat, s5 = .int .i64 i ∧ i ≤ m ∧ m - i ≤ gk ∧ Hid (Below w.heap.size w wr ∧ ValsAt wr bv m v ∧ ShortTo v i))
    case atStart => exact ⟨0, rfl, by omega, by omega, B3.out, HV.out, fun j h => absurd h (Nat.not_lt_zero j)⟩
    case round =>
      clear B3 HV
      obtain ⟨i, rfl, hi, hk, HR⟩ := hrel
      by_cases hlt : i < m
      · have hlz : (i : Int) < (m : Int) := by omega
        obtain ⟨x, hx⟩ : ∃ x, (v i).2 = x := ⟨_, rfl⟩
        have c1 : wr.cell? ⟨bv, i * 2 + 1, none⟩ = some (.int .i64 x) := by rw [← hx]; exact HR.out.2.1.at_ i hlt 1 _ rfl
        have HX := Lib.hid hx
        clear hx
        by_cases g1 : (1000 : Int) < x
        · go_wp2_with fail
          go_ret
          exact ⟨false, rfl, no_, HR.out.1⟩
        have HG : Hid (x ≤ 1000) := by show _ ≤ _; omega
        go_wp2_with fail
        go_roundg (m - (i + 1))
        case measure => omega
        case rel => exact ⟨i + 1, by go_num, by omega, by omega, HR.out.1, HR.out.2.1, fun j hj => by
          by_cases hji : j = i
          · rw [hji, HX.out]; exact HG.out
          · exact HR.out.2.2 j (by omega)⟩
      · have hlz : ¬ (i : Int) < (m : Int) := by omega
        obtain rfl : m = i := by omega
        go_wp2_with fail
        go_ret
        exact ⟨true, rfl, fun _ => ⟨m, v, f, HS.out, HSO.out, HR.out.2.2⟩, HR.out.1⟩
set_option maxRecDepth 100000 in
theorem small39 {w : World} {A : Option Addr} {cap : Nat} (n : Int) (es : List REd) (hA : EdsIn w A es) : Calls Try.prog 39 #[.agg #[.int .i64 n, .slice A es.length cap]] w (YesPost w (∃ m v f, ShortH n es m v f)) := by
  have al : Below w.heap.size w (w.alloc (.cells #[.int .i64 n, .slice A es.length cap] 48)) := (Below.refl _ _).alloc (Nat.le_refl _) _
  have CS := Lib.hid (short71 (cap := cap) n es (hA.below al))
  have AL := Lib.hid al
  clear hA al
  go_enter Try.func39, Try.ntmps39
  go_wp2_with fail
  with_reducible refine CS.out.mono ?_
  rintro r w2 ⟨b, rfl, hb2, b2⟩
  have HB := Lib.hid (And.intro hb2 (AL.out.trans (b2.mono AL.out.size)))
  clear b2 hb2
  go_wp2_with fail
  go_ret
  exact ⟨b, rfl, HB.out.1, HB.out.2⟩
/-! ### Reachable -/
def ClosedR (E : List K.Ed) (d : Nat → Bool) (k a : Nat) : Prop := ∀ (j : Nat) e (i t : Nat), E[j]? = some e → (j < k ∨ j = k ∧ i < a) → d e.head = true → e.tails[i]? = some t → d t = true
def SweepR (E : List K.Ed) (n s0 k a : Nat) (d : Nat → Bool) (more : Bool) : Prop := (more = false ∧ cF d n = s0 ∧ ClosedR E d k a) ∨ (more = true ∧ cF d n < s0)
section
variable {E : List K.Ed} {n s0 k a t : Nat} {d : Nat → Bool} {more : Bool} {e : K.Ed}
theorem SweepR.edge (h : SweepR E n s0 k a d more) (he : E[k]? = some e) (ha : d e.head = true → e.tails.length ≤ a) : SweepR E n s0 (k + 1) 0 d more := by
  refine h.imp (fun ⟨h1, h2, h3⟩ => ⟨h1, h2, fun j e' i t hj hc hd ht => ?_⟩) id
  by_cases hjk : j = k
  · subst hjk
    rw [he] at hj
    cases hj
    have := (List.getElem?_eq_some_iff.1 ht).1
    exact h3 j e i t he (.inr ⟨rfl, by have := ha hd; omega⟩) hd ht
  · exact h3 j e' i t hj (.inl (by omega)) hd ht
theorem SweepR.old (h : SweepR E n s0 k a d more) (he : E[k]? = some e) (ht : e.tails[a]? = some t) (hd : d t = true) : SweepR E n s0 k (a + 1) d more := by
  refine h.imp (fun ⟨h1, h2, h3⟩ => ⟨h1, h2, fun j e' i t' hj hc hdd ht' => ?_⟩) id
  by_cases hjk : j = k ∧ i = a
  · obtain ⟨rfl, rfl⟩ := hjk
    rw [he] at hj
    cases hj
    rw [ht] at ht'
    cases ht'
    exact hd
  · exact h3 j e' i t' hj (by omega) hdd ht'
theorem SweepR.new (h : SweepR E n s0 k a d more) (htn : t < n) (hd : d t = false) : SweepR E n s0 k (a + 1) (K.upd d t true) true := by
  have h2 := cF_upd hd n htn
  refine .inr ⟨rfl, ?_⟩
  rcases h with ⟨_, h3, _⟩ | ⟨_, h3⟩ <;> omega
end
def ReachPost (w : World) (n : Nat) (E : List K.Ed) (root : Int) (r : Ending) (w' : World) : Prop :=
  ∃ (bd : Nat) (d : Nat → Bool), r = .returned (.slice (some ⟨bd, 0, none⟩) n n) ∧ (0 ≤ root ∧ root < n → d root.toNat = true ∧ ∀ e ∈ E, d e.head = true → ∀ t ∈ e.tails, d t = true) ∧ w'.rowIs bd 4 n (boolRow d) ∧ Below w.heap.size w w' ∧ w.heap.size ≤ bd
set_option maxHeartbeats 8000000 in
set_option maxRecDepth 100000 in
theorem reach41 {w : World} {n ecap : Nat} {A : Option Addr} {es : List REd} (root : Int) (hA : EdsIn w A es) (hok : ∀ e ∈ es, e.ok n) (hn : n ≤ 1000) (hm : es.length ≤ 1000) :
    Calls Try.prog 41 #[.agg #[.int .i64 n, .slice A es.length ecap], .int .i64 root] w (ReachPost w n (es.map REd.plain) root) := by
  have HA := Lib.hid hA
  have HOK := Lib.hid hok
  clear hA hok
  have hmk := makeB n (by omega)
  obtain ⟨W3, hW3⟩ : ∃ W, W = (w.alloc (.cells #[.int .i64 n, .slice A es.length ecap] 48)).alloc (oB n) := ⟨_, rfl⟩
  obtain ⟨hb, hhb⟩ : ∃ b, b = w.heap.size := ⟨_, rfl⟩
  obtain ⟨bd, hbd⟩ : ∃ b, b = w.heap.size + 1 := ⟨_, rfl⟩
  have R3 : Hid (DSt w W3 hb bd n ecap A es (fun _ => false)) := by
    have B := (((Below.refl w.heap.size w).alloc (Nat.le_refl _) (.cells #[.int .i64 n, .slice A es.length ecap] 48)).alloc (by simp) (oB n))
    have s1 : (w.alloc (.cells #[.int .i64 n, .slice A es.length ecap] 48)).heap.size = w.heap.size + 1 := by simp
    have h1 := (eff_alloc _ (oB n)).heap (heap_alloc_new w (.cells #[.int .i64 n, .slice A es.length ecap] 48)) (fun h => h)
    have h2 := heap_alloc_new (w.alloc (.cells #[.int .i64 n, .slice A es.length ecap] 48)) (oB n)
    rw [s1] at h2
    rw [hW3, hhb, hbd]
    exact ⟨h1, row_of h2, B, by omega⟩
  have y9 : ((w.alloc (.cells #[.int .i64 n, .slice A es.length ecap] 48)).alloc (oB n)).cell? ⟨w.heap.size, 0, none⟩ = some (.int .i64 n) := by rw [← hW3, ← hhb]; exact R3.out.c.1
  have HW := Lib.hid (And.intro hW3 (And.intro hhb hbd))
  clear hW3 hhb hbd
  by_cases hr0 : root < 0
  · go_enter Try.func41, Try.ntmps41
    go_wp2_with fail
    rw [← HW.out.1, ← HW.out.2.2]
    go_ret
    exact ⟨bd, fun _ => false, rfl, fun h => by omega, R3.out.row, R3.out.below, R3.out.ge⟩
  by_cases hr1 : (n : Int) ≤ root
  · go_enter Try.func41, Try.ntmps41
    go_wp2_with fail
    rw [← HW.out.1, ← HW.out.2.2]
    go_ret
    exact ⟨bd, fun _ => false, rfl, fun h => by omega, R3.out.row, R3.out.below, R3.out.ge⟩
  obtain ⟨root, rfl⟩ : ∃ r : Nat, root = r := ⟨root.toNat, (Int.toNat_of_nonneg (by omega)).symm⟩
  have hrt : root < n := by omega
  have hrz : (root : Int) < (n : Int) := by omega
  obtain ⟨W4, hW4⟩ : ∃ W, W = W3.setCell ⟨bd, root, none⟩ (.bool true) := ⟨_, rfl⟩
  have R4 : Hid (DSt w W4 hb bd n ecap A es (K.upd (fun _ => false) root true)) := by rw [hW4]; exact R3.out.set root
  have u1 : ((w.alloc (.cells #[.int .i64 n, .slice A es.length ecap] 48)).alloc (oB n)).cell? ⟨w.heap.size + 1, root, none⟩ = some (.bool false) := by rw [← HW.out.1, ← HW.out.2.2]; exact R3.out.row.cell hrt
  have u2 : ((w.alloc (.cells #[.int .i64 n, .slice A es.length ecap] 48)).alloc (oB n)).frozen? ⟨w.heap.size + 1, root, none⟩ = false := by rw [← HW.out.1, ← HW.out.2.2]; exact R3.out.row.frozen root
  have HW4 := Lib.hid hW4
  clear hW4
  go_enter Try.func41, Try.ntmps41
  go_wp2_with fail
  rw [← HW.out.1, ← HW.out.2.2, ← HW.out.2.1, ← HW4.out]
  clear hmk u1 u2 y9
  obtain ⟨M, hM⟩ : ∃ M, M = 2 * cF (K.upd (fun _ => false) root true) n + 1 := ⟨_, rfl⟩
  have HM := Lib.hid hM
  clear hM
  go_loopg [6] M (fun gk s6 wr => ∃ (more : Bool) (d : Nat → Bool), s6 = .bool more ∧ Hid (2 * cF d n + (if more then 1 else 0) ≤ gk ∧ DSt w wr hb bd n ecap A es d ∧ d root = true ∧ (more = false → ClosedR (es.map REd.plain) d es.length 0)))
  case atStart => exact ⟨true, _, rfl, by rw [HM.out]; exact Nat.le_refl _, R4.out, K.upd_self _ _ _, fun h => by cases h⟩
  case round =>
    clear R4 R3 HM HW HW4
    obtain ⟨more, d, rfl, HR⟩ := hrel
    cases more with
    | false =>
      have FX : Hid (ReachPost w n (es.map REd.plain) root (.returned (.slice (some ⟨bd, 0, none⟩) n n)) wr) := ⟨bd, d, rfl, fun _ => ⟨HR.out.2.2.1, fun e he hd t ht => by
        obtain ⟨j, hj⟩ := List.getElem?_of_mem he
        obtain ⟨i, hi⟩ := List.getElem?_of_mem ht
        exact HR.out.2.2.2 rfl j e i t hj (.inl (by have := (List.getElem?_eq_some_iff.1 hj).1; rwa [List.length_map] at this)) hd hi⟩, HR.out.2.1.row, HR.out.2.1.below, HR.out.2.1.ge⟩
      clear HR
      go_wp2_with fail
      go_ret
      exact FX.out
    | true =>
      obtain ⟨s0, hs0⟩ : ∃ s0, cF d n = s0 := ⟨_, rfl⟩
      have I5 : Hid (DSt w wr hb bd n ecap A es d ∧ SweepR (es.map REd.plain) n s0 0 0 d false ∧ d root = true) := ⟨HR.out.2.1, .inl ⟨rfl, hs0, fun j e i t _ hc => by omega⟩, HR.out.2.2.1⟩
      have HG : Hid (2 * s0 + 1 ≤ gk) := by rw [← hs0]; exact HR.out.1
      clear HR hs0
      go_wp2_with fail
      go_loopg [6, 7] es.length (fun gj s6 s7 wr => ∃ (k : Nat) (more : Bool) (d : Nat → Bool), s6 = .bool more ∧ s7 = .int .i64 k ∧ k ≤ es.length ∧ es.length - k ≤ gj ∧ Hid (DSt w wr hb bd n ecap A es d ∧ SweepR (es.map REd.plain) n s0 k 0 d more ∧ d root = true))
      case atStart => exact ⟨0, false, d, rfl, rfl, by omega, by omega, I5.out⟩
      case round =>
        clear I5 d
        obtain ⟨k, more, d, rfl, rfl, hi, hk, HR⟩ := hrel
        obtain ⟨y0, y1⟩ := HR.out.1.c
        by_cases hlt : k < es.length
        · have hlz : (k : Int) < (es.length : Int) := by omega
          obtain ⟨e, he⟩ : ∃ e, es[k]? = some e := ⟨_, List.getElem?_eq_getElem hlt⟩
          have hok := HOK.out e (List.mem_of_getElem? he)
          have HTI := Lib.hid (HA.out.tails e (List.mem_of_getElem? he))
          obtain ⟨eb0, eo, rfl, z0, z1, z2, z3, z4⟩ := HA.out.c HR.out.1.below he
          have HEK : Hid ((es.map REd.plain)[k]? = some e.plain) := by show _ = _; rw [List.getElem?_map, he]; rfl
          obtain ⟨hn', hhn⟩ : ∃ x, e.head.toNat = x := ⟨_, rfl⟩
          have hhe : e.head = (hn' : Int) := by rw [← hhn, Int.toNat_of_nonneg hok.1]
          have hhl : hn' < n := by have := hok.2.1; omega
          have hhz : (hn' : Int) < (n : Int) := by omega
          have hph : e.plain.head = hn' := hhn
          obtain ⟨W2, hW2⟩ : ∃ W, W = wr.alloc (.cells #[.int .i64 e.head, .slice e.A e.tails.length e.cap, .int .i64 e.cost, .int .i64 e.l0, .int .i64 e.l1] 60) := ⟨_, rfl⟩
          obtain ⟨xb, hxb⟩ : ∃ b, b = wr.heap.size := ⟨_, rfl⟩
          have B2 : Below wr.heap.size wr W2 := by rw [hW2]; exact (Below.refl _ _).alloc (Nat.le_refl _) _
          have HI : Hid ((DSt w W2 hb bd n ecap (some ⟨eb0, eo, none⟩) es d ∧ EBX W2 xb e) ∧ SweepR (es.map REd.plain) n s0 k 0 d more ∧ d root = true) := ⟨⟨HR.out.1.bel B2, by show W2.heap[xb]? = _; rw [hW2, hxb]; exact heap_alloc_new wr _⟩, HR.out.2⟩
          have HE := Lib.hid (And.intro hok (And.intro hhe hph))
          have htl : e.tails.length ≤ 4 := hok.2.2.2.2.2
          have HW2 := Lib.hid (And.intro hW2 hxb)
          clear HR he hok hhn hhe hph hW2 hxb B2
          go_wp2_with fail
          rw [← HW2.out.1, ← HW2.out.2]
          clear y0 y1 z0 z1 z2 z3 z4 HW2
          go_loopg [6, 9] e.tails.length (fun gj s6 s9 wr => ∃ (a : Nat) (more : Bool) (d : Nat → Bool), s6 = .bool more ∧ s9 = .int .i64 a ∧ a ≤ e.tails.length ∧ e.tails.length - a ≤ gj ∧ Hid ((DSt w wr hb bd n ecap (some ⟨eb0, eo, none⟩) es d ∧ EBX wr xb e) ∧ SweepR (es.map REd.plain) n s0 k a d more ∧ d root = true))
          case atStart => exact ⟨0, more, d, rfl, rfl, by omega, by omega, HI.out⟩
          case round =>
            clear HI d
            obtain ⟨a, more, d, rfl, rfl, ha, hka, HR⟩ := hrel
            obtain ⟨x0, x1, _⟩ := HR.out.1.2.c
            rw [HE.out.2.1] at x0
            by_cases hlt3 : a < e.tails.length
            · have hlz3 : (a : Int) < (e.tails.length : Int) := by omega
              obtain ⟨x, hx⟩ : ∃ x, d hn' = x := ⟨_, rfl⟩
              have u1 : wr.cell? ⟨bd, hn', none⟩ = some (.bool x) := by rw [← hx]; exact HR.out.1.1.row.cell hhl
              cases x with
              | false =>
                have N9 : Hid (DSt w wr hb bd n ecap (some ⟨eb0, eo, none⟩) es d ∧ SweepR (es.map REd.plain) n s0 (k + 1) 0 d more ∧ d root = true) := ⟨HR.out.1.1, HR.out.2.1.edge HEK.out (fun h => by rw [HE.out.2.2, hx] at h; cases h), HR.out.2.2⟩
                clear hx
                go_wp2_with fail
                go_roundg (es.length - (k + 1))
                case measure => omega
                case rel => exact ⟨k + 1, more, d, rfl, by go_num, by omega, by omega, N9.out⟩
              | true =>
                obtain ⟨t, ht⟩ : ∃ t, e.tails[a]? = some t := ⟨_, List.getElem?_eq_getElem hlt3⟩
                have ht2 := HE.out.1.2.2.1 t (List.mem_of_getElem? ht)
                obtain ⟨tn, rfl⟩ : ∃ tn : Nat, t = tn := ⟨t.toNat, (Int.toNat_of_nonneg ht2.1).symm⟩
                have htn : tn < n := by omega
                have hnz : (tn : Int) < (n : Int) := by omega
                have hpt : e.plain.tails[a]? = some tn := by show (e.tails.map Int.toNat)[a]? = _; rw [List.getElem?_map, ht]; rfl
                obtain ⟨tb, tof, htA, ct⟩ := HTI.out.c HR.out.1.1.below ht
                rw [htA] at x1
                obtain ⟨y, hy⟩ : ∃ y, d tn = y := ⟨_, rfl⟩
                have u3 : wr.cell? ⟨bd, tn, none⟩ = some (.bool y) := by rw [← hy]; exact HR.out.1.1.row.cell htn
                have u4 : wr.frozen? ⟨bd, tn, none⟩ = false := HR.out.1.1.row.frozen tn
                cases y with
                | true =>
                  have N9 : Hid ((DSt w wr hb bd n ecap (some ⟨eb0, eo, none⟩) es d ∧ EBX wr xb e) ∧ SweepR (es.map REd.plain) n s0 k (a + 1) d more ∧ d root = true) := ⟨HR.out.1, HR.out.2.1.old HEK.out hpt hy, HR.out.2.2⟩
                  clear hx hy ht ht2 hpt htA
                  go_wp2_with fail
                  go_roundg (e.tails.length - (a + 1))
                  case measure => omega
                  case rel => exact ⟨a + 1, more, d, rfl, by go_num, by omega, by omega, N9.out⟩
                | false =>
                  have N9 : Hid ((DSt w (wr.setCell ⟨bd, tn, none⟩ (.bool true)) hb bd n ecap (some ⟨eb0, eo, none⟩) es (K.upd d tn true) ∧ EBX (wr.setCell ⟨bd, tn, none⟩ (.bool true)) xb e) ∧ SweepR (es.map REd.plain) n s0 k (a + 1) (K.upd d tn true) true ∧ K.upd d tn true root = true) := by
                    obtain ⟨c1, k1, _⟩ := HR.out.1.1.row
                    have hX : wr.heap[xb]? = _ := HR.out.1.2
                    refine ⟨⟨HR.out.1.1.set tn, (eff_setCell wr bd tn (.bool true)).heap hX (ne_of_type hX k1 (by decide))⟩, HR.out.2.1.new htn hy, ?_⟩
                    unfold K.upd
                    split
                    · rfl
                    · exact HR.out.2.2
                  clear hx hy ht ht2 hpt htA
                  go_wp2_with fail
                  go_roundg (e.tails.length - (a + 1))
                  case measure => omega
                  case rel => exact ⟨a + 1, true, _, rfl, by go_num, by omega, by omega, N9.out⟩
            · have hlz3 : ¬ (a : Int) < (e.tails.length : Int) := by omega
              obtain rfl : e.tails.length = a := by omega
              have N9 : Hid (DSt w wr hb bd n ecap (some ⟨eb0, eo, none⟩) es d ∧ SweepR (es.map REd.plain) n s0 (k + 1) 0 d more ∧ d root = true) := ⟨HR.out.1.1, HR.out.2.1.edge HEK.out (fun _ => by rw [show e.plain.tails.length = e.tails.length from List.length_map _]; exact Nat.le_refl _), HR.out.2.2⟩
              go_wp2_with fail
              go_roundg (es.length - (k + 1))
              case measure => omega
              case rel => exact ⟨k + 1, more, d, rfl, by go_num, by omega, by omega, N9.out⟩
        · have hlz : ¬ (k : Int) < (es.length : Int) := by omega
          obtain rfl : es.length = k := by omega
          go_wp2_with fail
          go_roundg (2 * cF d n + (if more then 1 else 0))
          case measure =>
            rcases HR.out.2.1 with ⟨rfl, h2, _⟩ | ⟨rfl, h2⟩
            · have := HG.out
              simp only [Bool.false_eq_true, if_false]
              omega
            · have := HG.out
              simp only [if_true]
              omega
          case rel => exact ⟨more, d, rfl, Nat.le_refl _, HR.out.1, HR.out.2.2, fun h => by
            rcases HR.out.2.1 with ⟨_, _, h2⟩ | ⟨h1, _⟩
            · exact h2
            · rw [h] at h1; cases h1⟩
end Go.Proofs.Ytepfbhigeghjjaa.Q
namespace Go.Proofs.Ytepfbhigeghjjaa.Q
open Go.RowKit Go.Proofs.YtepfbhigeghjjaaW.PrintLast
set_option linter.unusedVariables false
set_option linter.unusedSimpArgs false

def TruePost (w : World) (r : Ending) (w' : World) : Prop := r = .returned (.bool true) ∧ Below w.heap.size w w'
/-- A call that gives a fresh row of m values, of which Q holds. -/
def SPost (t : TypeId) (m : Nat) (Q : (Nat → Value) → Prop) (W : World) (r : Ending) (w' : World) : Prop := ∃ (b : Nat) (g : Nat → Value), r = .returned (.slice (some ⟨b, 0, none⟩) m m) ∧ Q g ∧ w'.rowIs b t m g ∧ Below W.heap.size W w'
def RowQ (E : List K.Ed) (n : Nat) (root : Int) (F : (Nat → Int) → (Nat → Int) → Nat → Int) (g : Nat → Value) : Prop := ∃ (v : Nat → K.V) (f out : Nat → Int), K.Sol E n v f ∧ OutIs E n (fun i => (v i).1) root out ∧ g = intRow (F (fun i => (v i).1) out)
theorem RPost.s {w : World} {E : List K.Ed} {n m : Nat} {root : Int} {F : (Nat → Int) → (Nat → Int) → Nat → Int} {r : Ending} {w' : World} (h : RPost w E n m root F r w') : SPost 3 m (RowQ E n root F) w r w' := by
  obtain ⟨b, v, f, out, h1, h2, h3, h4, h5, _⟩ := h
  exact ⟨b, _, h1, ⟨v, f, out, h2, h3, rfl⟩, h4, h5⟩
def ReachQ (E : List K.Ed) (n : Nat) (root : Int) (g : Nat → Value) : Prop := ∃ d : Nat → Bool, (0 ≤ root ∧ root < n → d root.toNat = true ∧ ∀ e ∈ E, d e.head = true → ∀ t ∈ e.tails, d t = true) ∧ g = boolRow d
theorem ReachPost.s {w : World} {n : Nat} {E : List K.Ed} {root : Int} {r : Ending} {w' : World} (h : ReachPost w n E root r w') : SPost 4 n (ReachQ E n root) w r w' := by
  obtain ⟨b, d, h1, h2, h3, h4, _⟩ := h
  exact ⟨b, _, h1, ⟨d, h2, rfl⟩, h3, h4⟩
theorem hbR {W : World} {hb m cap : Nat} {n : Int} {A : Option Addr} (h : HBZ W hb n m cap A) : W.rangeAt hb 0 [.int .i64 n, .slice A m cap] := box_range (L := [.int .i64 n, .slice A m cap]) h 0 _ (fun j v h => by rw [Nat.zero_add]; exact h)
theorem reach_path {E : List K.Ed} {inn : Nat → Int} {root : Nat} {d : Nat → Bool} (h0 : d root = true) (hc : ∀ e ∈ E, d e.head = true → ∀ t ∈ e.tails, d t = true) {i : Nat} {y : Int} (h : K.Path E inn root i y) : d i = true := by
  induction h with
  | root => exact h0
  | step e x h he k t ht ih => exact hc e he ih t (List.mem_of_getElem? ht)
theorem unreachable_inf {E : List K.Ed} {n : Nat} {inn : Nat → Int} {root : Int} {out : Nat → Int} {d : Nat → Bool} (h : OutIs E n inn root out) (hd : 0 ≤ root ∧ root < n → d root.toNat = true ∧ ∀ e ∈ E, d e.head = true → ∀ t ∈ e.tails, d t = true) (i : Nat) (hi : i < n) (hn : d i = false) : out i = 1099511627776 := by
  by_cases hr : 0 ≤ root ∧ root < n
  · obtain ⟨h1, h2⟩ := hd hr
    by_cases hf : out i < K.INF
    · have := reach_path h1 h2 ((h.1 hr).path i hi hf)
      rw [hn] at this
      cases this
    · have := ((h.1 hr).ok i hi).2
      have hI : K.INF = 1099511627776 := rfl
      omega
  · exact h.2 hr i hi
end Go.Proofs.Ytepfbhigeghjjaa.Q
