/- KnuthLess: the walk. -/
import Derived.Test.YtepfbhigeghjjaaL29a
namespace Go.Proofs.Ytepfbhigeghjjaa.Q
open Go.RowKit Go.Proofs.YtepfbhigeghjjaaW.PrintLast
set_option linter.unusedVariables false
set_option linter.unusedSimpArgs false

set_option maxHeartbeats 4000000 in
set_option maxRecDepth 100000 in
theorem less_walk (a1 a2 b1 b2 c1 c2 : Int) (w : World) :
    Calls Try.prog 9 #[.agg #[.int .i64 a1, .int .i64 a2], .agg #[.int .i64 b1, .int .i64 b2], .agg #[.int .i64 c1, .int .i64 c2]] w fun r w' => r = .returned (.bool true) ∧ Below w.heap.size w w' := by
  obtain ⟨W1, hW1⟩ : ∃ W, W = ((w.alloc (.cells #[.int .i64 a1, .int .i64 a2] 54)).alloc (.cells #[.int .i64 b1, .int .i64 b2] 54)).alloc (.cells #[.int .i64 c1, .int .i64 c2] 54) := ⟨_, rfl⟩
  obtain ⟨pa, hpa⟩ : ∃ b, b = w.heap.size := ⟨_, rfl⟩
  obtain ⟨pb, hpb⟩ : ∃ b, b = w.heap.size + 1 := ⟨_, rfl⟩
  obtain ⟨pc, hpc⟩ : ∃ b, b = w.heap.size + 1 + 1 := ⟨_, rfl⟩
  have T := two_alloc w (.cells #[.int .i64 a1, .int .i64 a2] 54) (.cells #[.int .i64 b1, .int .i64 b2] 54)
  have T3 := heap_alloc_new ((w.alloc (.cells #[.int .i64 a1, .int .i64 a2] 54)).alloc (.cells #[.int .i64 b1, .int .i64 b2] 54)) (.cells #[.int .i64 c1, .int .i64 c2] 54)
  rw [show ((w.alloc (.cells #[.int .i64 a1, .int .i64 a2] 54)).alloc (.cells #[.int .i64 b1, .int .i64 b2] 54)).heap.size = w.heap.size + 1 + 1 by simp, ← hW1, ← hpc] at T3
  have E3 := eff_alloc ((w.alloc (.cells #[.int .i64 a1, .int .i64 a2] 54)).alloc (.cells #[.int .i64 b1, .int .i64 b2] 54)) (.cells #[.int .i64 c1, .int .i64 c2] 54)
  rw [← hW1] at E3
  have PA : Hid (W1.heap[pa]? = some (.cells #[.int .i64 a1, .int .i64 a2] 54 (0, 0))) := by rw [hpa]; exact E3.heap T.1 (fun h => h)
  have PB : Hid (W1.heap[pb]? = some (.cells #[.int .i64 b1, .int .i64 b2] 54 (0, 0))) := by rw [hpb]; exact E3.heap T.2 (fun h => h)
  have PC := Lib.hid T3
  have B1 : Hid (Below w.heap.size w W1) := by rw [hW1]; exact (((Below.refl _ _).alloc (Nat.le_refl _) _).alloc (by simp) _).alloc (by simp; omega) _
  have HW := Lib.hid (And.intro hW1 (And.intro hpa (And.intro hpb hpc)))
  have XA : W1.rangeAt pa 0 [.int .i64 a1, .int .i64 a2] := box_range (L := [.int .i64 a1, .int .i64 a2]) PA.out 0 _ (fun j v h => by rw [Nat.zero_add]; exact h)
  have XB : W1.rangeAt pb 0 [.int .i64 b1, .int .i64 b2] := box_range (L := [.int .i64 b1, .int .i64 b2]) PB.out 0 _ (fun j v h => by rw [Nat.zero_add]; exact h)
  have XX := Lib.hid (And.intro XA XB)
  clear T T3 E3 hW1 hpa hpb hpc XA XB
  go_enter Try.func9, Try.ntmps9
  go_wp2_with fail
  rw [← HW.out.1, ← HW.out.2.2.2, ← HW.out.2.2.1, ← HW.out.2.1]
  refine less_r1 (fun _ _ _ _ _ h => h) XX.out.1 XX.out.2 ?_
  rintro w9 b9
  intro t8 t9 t10 t11 t12 t13 t14 t15 t16 t17 t18 t19 t20 t21 t22 t23 t24 t25 t26 t27 t28 t29 t30 t31 t32 t33 t34 t35 t36 t37 t38 t39 t40 t41 t42 t43 t44 t45 t46 t47
  have PA9 := Lib.hid (below_heap b9 PA.out)
  have PB9 := Lib.hid (below_heap b9 PB.out)
  have PC9 := Lib.hid (below_heap b9 PC.out)
  have B9 : Hid (Below w.heap.size w w9) := B1.out.trans (b9.mono B1.out.size)
  have AW := Lib.hid awake44
  clear b9
  go_wp2_with fail
  with_reducible refine (AW.out _).mono ?_
  rintro r w10 ⟨rfl, b10⟩
  have PA10 := Lib.hid (below_heap b10 PA9.out)
  have PB10 := Lib.hid (below_heap b10 PB9.out)
  have PC10 := Lib.hid (below_heap b10 PC9.out)
  have B10 : Hid (Below w.heap.size w w10) := B9.out.trans (b10.mono B9.out.size)
  clear b10
  have xa0 : w10.cell? ⟨pa, 0, none⟩ = some (.int .i64 a1) := by simp only [World.cell?, PA10.out]; rfl
  have xa1 : w10.cell? ⟨pa, 1, none⟩ = some (.int .i64 a2) := by simp only [World.cell?, PA10.out]; rfl
  have xb0 : w10.cell? ⟨pb, 0, none⟩ = some (.int .i64 b1) := by simp only [World.cell?, PB10.out]; rfl
  have xb1 : w10.cell? ⟨pb, 1, none⟩ = some (.int .i64 b2) := by simp only [World.cell?, PB10.out]; rfl
  have C1 := less42 a1 a2 b1 b2 w10
  obtain ⟨L, hL⟩ : ∃ x, decide (a1 < b1 ∨ a1 = b1 ∧ a2 < b2) = x := ⟨_, rfl⟩
  rw [hL] at C1
  have CC1 := Lib.hid C1
  have HL := Lib.hid hL
  clear C1 hL
  go_wp2_with fail
  with_reducible refine CC1.out.mono ?_
  rintro r w11 ⟨rfl, b11⟩
  have PA11 := Lib.hid (below_heap b11 PA10.out)
  have PB11 := Lib.hid (below_heap b11 PB10.out)
  have PC11 := Lib.hid (below_heap b11 PC10.out)
  have B11 : Hid (Below w.heap.size w w11) := B10.out.trans (b11.mono B10.out.size)
  clear b11 xa0 xa1 xb0 xb1 CC1
  cases L with
  | false =>
    go_wp2_with fail
    go_ret
    exact ⟨rfl, B11.out⟩
  | true =>
    have xb0 : w11.cell? ⟨pb, 0, none⟩ = some (.int .i64 b1) := by simp only [World.cell?, PB11.out]; rfl
    have xb1 : w11.cell? ⟨pb, 1, none⟩ = some (.int .i64 b2) := by simp only [World.cell?, PB11.out]; rfl
    have xc0 : w11.cell? ⟨pc, 0, none⟩ = some (.int .i64 c1) := by simp only [World.cell?, PC11.out]; rfl
    have xc1 : w11.cell? ⟨pc, 1, none⟩ = some (.int .i64 c2) := by simp only [World.cell?, PC11.out]; rfl
    have C2 := less42 b1 b2 c1 c2 w11
    obtain ⟨M, hM⟩ : ∃ x, decide (b1 < c1 ∨ b1 = c1 ∧ b2 < c2) = x := ⟨_, rfl⟩
    rw [hM] at C2
    have CC2 := Lib.hid C2
    have HM := Lib.hid hM
    clear C2 hM
    go_wp2_with fail
    with_reducible refine CC2.out.mono ?_
    rintro r w12 ⟨rfl, b12⟩
    have PA12 := Lib.hid (below_heap b12 PA11.out)
    have PC12 := Lib.hid (below_heap b12 PC11.out)
    have B12 : Hid (Below w.heap.size w w12) := B11.out.trans (b12.mono B11.out.size)
    clear b12 xb0 xb1 xc0 xc1 CC2
    cases M with
    | false =>
      go_wp2_with fail
      go_ret
      exact ⟨rfl, B12.out⟩
    | true =>
      have xa0 : w12.cell? ⟨pa, 0, none⟩ = some (.int .i64 a1) := by simp only [World.cell?, PA12.out]; rfl
      have xa1 : w12.cell? ⟨pa, 1, none⟩ = some (.int .i64 a2) := by simp only [World.cell?, PA12.out]; rfl
      have xc0 : w12.cell? ⟨pc, 0, none⟩ = some (.int .i64 c1) := by simp only [World.cell?, PC12.out]; rfl
      have xc1 : w12.cell? ⟨pc, 1, none⟩ = some (.int .i64 c2) := by simp only [World.cell?, PC12.out]; rfl
      have C3 := less42 a1 a2 c1 c2 w12
      rw [show decide (a1 < c1 ∨ a1 = c1 ∧ a2 < c2) = true from decide_eq_true (by have h1 := of_decide_eq_true HL.out; have h2 := of_decide_eq_true HM.out; omega)] at C3
      have CC3 := Lib.hid C3
      clear C3
      go_wp2_with fail
      with_reducible refine CC3.out.mono ?_
      rintro r w13 ⟨rfl, b13⟩
      have B13 : Hid (Below w.heap.size w w13) := B12.out.trans (b13.mono B12.out.size)
      clear b13
      go_wp2_with fail
      go_ret
      exact ⟨rfl, B13.out⟩
end Go.Proofs.Ytepfbhigeghjjaa.Q
