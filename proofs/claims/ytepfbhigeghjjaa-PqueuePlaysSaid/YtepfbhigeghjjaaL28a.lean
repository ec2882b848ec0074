/- The example of chapter 28: awake returns true. -/
import Derived.Test.YtepfbhigeghjjaaQEa
namespace Go.Proofs.Ytepfbhigeghjjaa.Q
open Go.RowKit
set_option linter.unusedVariables false
set_option linter.unusedSimpArgs false
set_option maxHeartbeats 4000000 in
set_option maxRecDepth 100000 in
theorem awake28 (w : World) : Calls Try.prog 25 #[] w fun r w' => r = .returned (.bool true) ∧ Below w.heap.size w w' := by
  go_enter Try.func25, Try.ntmps25
  go_wp2_with fail
  refine (newA_E (B := w.heap.size) w (Nat.le_refl _)).mono ?_
  rintro r w1 ⟨g, rfl, q1, b1⟩
  have Q1 := Lib.hid q1
  have B1 : Hid (Below w.heap.size w w1) := b1
  clear q1 b1
  go_wp2_with fail
  refine (pushA_E Q1.out (by simp) (by omega) (by omega) (by omega) (by omega) (by decide) ⟨3, 7⟩).mono ?_
  rintro r w2 ⟨rfl, q2, e2⟩
  have Q2 := Lib.hid q2
  have B2 : Hid (Below w.heap.size w w2) := B1.out.trans (e2.below B1.out.size)
  clear q2 e2
  go_wp2_with fail
  refine (pushA_E Q2.out (by simp) (by omega) (by omega) (by omega) (by omega) (by decide) ⟨1, 0⟩).mono ?_
  rintro r w3 ⟨rfl, q3, e3⟩
  have Q3 := Lib.hid q3
  have B3 : Hid (Below w.heap.size w w3) := B2.out.trans (e3.below B2.out.size)
  clear q3 e3
  go_wp2_with fail
  refine (pushA_E Q3.out (by simp) (by omega) (by omega) (by omega) (by omega) (by decide) ⟨2, 0⟩).mono ?_
  rintro r w4 ⟨rfl, q4, e4⟩
  have Q4 := Lib.hid q4
  have B4 : Hid (Below w.heap.size w w4) := B3.out.trans (e4.below B3.out.size)
  clear q4 e4
  go_wp2_with fail
  refine (popA_E Q4.out (by simp) (by decide)).mono ?_
  rintro r w5 ⟨m, R, rfl, hp, hm, q5, e5⟩
  obtain ⟨rfl, hR⟩ := min_unique (m0 := ⟨⟨1, 0⟩, 1, 1⟩) (R0 := [⟨⟨2, 0⟩, 2, 2⟩, ⟨⟨3, 7⟩, 0, 0⟩]) (List.Perm.swap _ _ _) (by decide) hp hm
  have Q5 := Lib.hid (q5.perm hR)
  have B5 : Hid (Below w.heap.size w w5) := B4.out.trans (e5.below B4.out.size)
  clear q5 e5 hp hm hR
  rw [show (Cells.cs (⟨1, 0⟩ : E28)).toArray = #[.int .i64 1, .int .i64 0] from rfl]
  go_wp2_with fail
  obtain ⟨W5, hW5⟩ : ∃ W, W = w5.alloc (.cells #[.int .i64 1, .int .i64 0] 27) := ⟨_, rfl⟩
  obtain ⟨p1, hp1⟩ : ∃ p, p = w5.heap.size := ⟨_, rfl⟩
  rw [← hW5, ← hp1]
  have P1 : Hid (W5.heap[p1]? = some (.cells #[.int .i64 1, .int .i64 0] 27 (0, 0))) := by show _ = _; rw [hW5, hp1]; exact heap_alloc_new w5 _
  have A5 : Below w5.heap.size w5 W5 := by rw [hW5]; exact (Below.refl _ _).alloc (Nat.le_refl _) _
  have QW5 := Lib.hid (Q5.out.eff A5)
  have BW5 : Hid (Below w.heap.size w W5) := B5.out.trans (A5.mono B5.out.size)
  clear hW5 hp1 A5
  refine (updA_E QW5.out ⟨⟨3, 7⟩, 0, 0⟩ (R := [⟨⟨2, 0⟩, 2, 2⟩]) (List.Perm.swap _ _ _) 0 rfl (by omega) (by omega) (by decide) ⟨0, 8⟩).mono ?_
  rintro r w6 ⟨rfl, q6, e6⟩
  have Q6 := Lib.hid q6
  have B6 : Hid (Below w.heap.size w w6) := BW5.out.trans (e6.below BW5.out.size)
  have P16 := Lib.hid (e6.blk p1 _ _ _ P1.out (by decide) (by decide))
  clear q6 e6 P1
  go_wp2_with fail
  refine (popA_E Q6.out (by simp) (by decide)).mono ?_
  rintro r w7 ⟨m, R, rfl, hp, hm, q7, e7⟩
  obtain ⟨rfl, hR⟩ := min_unique (m0 := ⟨⟨0, 8⟩, 0, 3⟩) (R0 := [⟨⟨2, 0⟩, 2, 2⟩]) (List.Perm.refl _) (by decide) hp hm
  have Q7 := Lib.hid (q7.perm hR)
  have B7 : Hid (Below w.heap.size w w7) := B6.out.trans (e7.below B6.out.size)
  have P17 := Lib.hid (e7.blk p1 _ _ _ P16.out (by decide) (by decide))
  clear q7 e7 hp hm hR P16
  rw [show (Cells.cs (⟨0, 8⟩ : E28)).toArray = #[.int .i64 0, .int .i64 8] from rfl]
  go_wp2_with fail
  obtain ⟨W7, hW7⟩ : ∃ W, W = w7.alloc (.cells #[.int .i64 0, .int .i64 8] 27) := ⟨_, rfl⟩
  obtain ⟨p2, hp2⟩ : ∃ p, p = w7.heap.size := ⟨_, rfl⟩
  rw [← hW7, ← hp2]
  have P2 : Hid (W7.heap[p2]? = some (.cells #[.int .i64 0, .int .i64 8] 27 (0, 0))) := by show _ = _; rw [hW7, hp2]; exact heap_alloc_new w7 _
  have A7 : Below w7.heap.size w7 W7 := by rw [hW7]; exact (Below.refl _ _).alloc (Nat.le_refl _) _
  have P1W := Lib.hid (below_heap A7 P17.out)
  have QW7 := Lib.hid (Q7.out.eff A7)
  have BW7 : Hid (Below w.heap.size w W7) := B7.out.trans (A7.mono B7.out.size)
  clear hW7 hp2 A7 P17
  refine (popA_E QW7.out (by simp) (by decide)).mono ?_
  rintro r w8 ⟨m, R, rfl, hp, hm, q8, e8⟩
  obtain ⟨rfl, hR⟩ := min_unique (m0 := ⟨⟨2, 0⟩, 2, 2⟩) (R0 := []) (List.Perm.refl _) (by simp) hp hm
  have Q8 := Lib.hid (q8.perm hR)
  have B8 : Hid (Below w.heap.size w w8) := BW7.out.trans (e8.below BW7.out.size)
  have P18 := Lib.hid (e8.blk p1 _ _ _ P1W.out (by decide) (by decide))
  have P28 := Lib.hid (e8.blk p2 _ _ _ P2.out (by decide) (by decide))
  clear q8 e8 hp hm hR P1W P2
  rw [show (Cells.cs (⟨2, 0⟩ : E28)).toArray = #[.int .i64 2, .int .i64 0] from rfl]
  go_wp2_with fail
  obtain ⟨W8, hW8⟩ : ∃ W, W = w8.alloc (.cells #[.int .i64 2, .int .i64 0] 27) := ⟨_, rfl⟩
  obtain ⟨p3, hp3⟩ : ∃ p, p = w8.heap.size := ⟨_, rfl⟩
  rw [← hW8, ← hp3]
  have P3 : Hid (W8.heap[p3]? = some (.cells #[.int .i64 2, .int .i64 0] 27 (0, 0))) := by show _ = _; rw [hW8, hp3]; exact heap_alloc_new w8 _
  have A8 : Below w8.heap.size w8 W8 := by rw [hW8]; exact (Below.refl _ _).alloc (Nat.le_refl _) _
  have P1W := Lib.hid (below_heap A8 P18.out)
  have P2W := Lib.hid (below_heap A8 P28.out)
  have QW8 := Lib.hid (Q8.out.eff A8)
  have BW8 : Hid (Below w.heap.size w W8) := B8.out.trans (A8.mono B8.out.size)
  clear hW8 hp3 A8 P18 P28
  refine (popNoneA_E QW8.out).mono ?_
  rintro r w9 ⟨rfl, q9, e9⟩
  have A9 : Below w9.heap.size w9 (w9.alloc (.cells #[.int .i64 0, .int .i64 0] 27)) := (Below.refl _ _).alloc (Nat.le_refl _) _
  have Q9 := Lib.hid (q9.eff A9)
  have B9 : Hid (Below w.heap.size w (w9.alloc (.cells #[.int .i64 0, .int .i64 0] 27))) := (BW8.out.trans (e9.below BW8.out.size)).trans (A9.mono (Nat.le_trans BW8.out.size e9.size))
  have P19 := below_heap A9 (e9.blk p1 _ _ _ P1W.out (by decide) (by decide))
  have P29 := below_heap A9 (e9.blk p2 _ _ _ P2W.out (by decide) (by decide))
  have P39 := below_heap A9 (e9.blk p3 _ _ _ P3.out (by decide) (by decide))
  have y1 : (w9.alloc (.cells #[.int .i64 0, .int .i64 0] 27)).cell? ⟨p1, 0, none⟩ = some (.int .i64 1) := by simp only [World.cell?, P19]; rfl
  have y2 : (w9.alloc (.cells #[.int .i64 0, .int .i64 0] 27)).cell? ⟨p2, 1, none⟩ = some (.int .i64 8) := by simp only [World.cell?, P29]; rfl
  have y3 : (w9.alloc (.cells #[.int .i64 0, .int .i64 0] 27)).cell? ⟨p3, 0, none⟩ = some (.int .i64 2) := by simp only [World.cell?, P39]; rfl
  clear q9 e9 A9 P19 P29 P39
  go_wp2_with fail
  refine (lenA_E Q9.out).mono ?_
  rintro r w10 ⟨rfl, rfl⟩
  go_wp2_with fail
  go_ret
  exact ⟨rfl, B9.out⟩
end Go.Proofs.Ytepfbhigeghjjaa.Q
