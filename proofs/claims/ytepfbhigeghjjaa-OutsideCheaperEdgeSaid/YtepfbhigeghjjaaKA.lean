/- The example of chapter 29 holds. -/
import Derived.Test.YtepfbhigeghjjaaKJ
import Derived.Test.YtepfbhigeghjjaaKS
namespace Go.Proofs.Ytepfbhigeghjjaa.Q
open Go.RowKit Go.Proofs.YtepfbhigeghjjaaW.PrintLast
set_option linter.unusedVariables false
set_option linter.unusedSimpArgs false

set_option maxHeartbeats 4000000 in
set_option maxRecDepth 100000 in
theorem awake44 (w : World) : Calls Try.prog 44 #[] w fun r w' => r = .returned (.bool true) ∧ Below w.heap.size w w' := by
  go_enter Try.func44, Try.ntmps44
  go_wp2_with fail
  refine (example74 w).mono ?_
  rintro r w2 ⟨b, p, q, rfl, hE, b2⟩
  have CS : Hid (Calls Try.prog 50 #[.agg #[.int .i64 2, .slice (some ⟨b, 0, none⟩) 4 4]] w2 (SolvePost w2 2 K.E29)) := solve50 (n := 2) (ecap := 4) hE (ex29_ok p q) (by decide) (show (4 : Nat) ≤ 1000 by decide)
  have B2 := Lib.hid b2
  clear hE b2
  go_wp2_with fail
  refine CS.out.mono ?_
  rintro r w3 ⟨bv, be, v, f, rfl, hs, hv, hf, b3, _, _⟩
  obtain ⟨v0, v1, f0, f1⟩ := K.sol29 hs
  have r0 : w3.rangeAt bv 0 [.int .i64 2, .int .i64 2] := by have := hv.at_ 0 (by decide); rw [v0] at this; exact this
  have r1 : w3.rangeAt bv 2 [.int .i64 2, .int .i64 1] := by have := hv.at_ 1 (by decide); rw [v1] at this; exact this
  have i0 : w3.cell? ⟨be, 0, none⟩ = some (.int .i64 2) := by have := hf.cell (i := 0) (by decide); rw [f0] at this; exact this
  have i1 : w3.cell? ⟨be, 1, none⟩ = some (.int .i64 3) := by have := hf.cell (i := 1) (by decide); rw [f1] at this; exact this
  have KV : ValsIn w3 (some ⟨bv, 0, none⟩) [(2, 2), (2, 1)] := by
    intro j y hy
    have hj : j < 2 := (List.getElem?_eq_some_iff.1 hy).1
    have : j = 0 ∨ j = 1 := by omega
    rcases this with rfl | rfl <;> cases hy
    · exact ⟨bv, 0, rfl, r0⟩
    · exact ⟨bv, 0, rfl, r1⟩
  have KI : IntsIn w3 (some ⟨be, 0, none⟩) [2, 3] := by
    intro j y hy
    have hj : j < 2 := (List.getElem?_eq_some_iff.1 hy).1
    have : j = 0 ∨ j = 1 := by omega
    rcases this with rfl | rfl <;> cases hy
    · exact ⟨be, 0, rfl, i0⟩
    · exact ⟨be, 0, rfl, i1⟩
  have OK : ∀ x ∈ ([(2, 2), (2, 1)] : List K.V), K.OkV x := by
    intro x hx
    simp only [List.mem_cons, List.not_mem_nil, or_false] at hx
    rcases hx with rfl | rfl <;> (unfold K.OkV; decide)
  have C52 : Hid (∀ W, Below w3.heap.size w3 W → Calls Try.prog 52 #[.slice (some ⟨bv, 0, none⟩) 2 2, .slice (some ⟨W.heap.size, 0, none⟩) 2 2] (W.alloc (.cells #[.int .i64 2, .int .i64 2, .int .i64 2, .int .i64 1] 54)).drew fun r w' => r = .returned (.bool true) ∧ Below (W.alloc (.cells #[.int .i64 2, .int .i64 2, .int .i64 2, .int .i64 1] 54)).drew.heap.size (W.alloc (.cells #[.int .i64 2, .int .i64 2, .int .i64 2, .int .i64 1] 54)).drew w') := by
    intro W hW
    have hX := heap_alloc_new W (.cells #[.int .i64 2, .int .i64 2, .int .i64 2, .int .i64 1] 54)
    refine same52 (ca := 2) (cb := 2) [(2, 2), (2, 1)] ((KV.below hW).below ((Below.refl _ _).alloc (Nat.le_refl _) _).drew) ?_ (by decide)
    intro j y hy
    have hj : j < 2 := (List.getElem?_eq_some_iff.1 hy).1
    have : j = 0 ∨ j = 1 := by omega
    rcases this with rfl | rfl <;> cases hy
    · exact ⟨_, 0, rfl, box_range (L := [.int .i64 2, .int .i64 2, .int .i64 2, .int .i64 1]) hX 0 _ (fun j v h => by
        have hj : j < 2 := (List.getElem?_eq_some_iff.1 h).1
        have : j = 0 ∨ j = 1 := by omega
        rcases this with rfl | rfl <;> (cases h; rfl))⟩
    · exact ⟨_, 0, rfl, box_range (L := [.int .i64 2, .int .i64 2, .int .i64 2, .int .i64 1]) hX 2 _ (fun j v h => by
        have hj : j < 2 := (List.getElem?_eq_some_iff.1 h).1
        have : j = 0 ∨ j = 1 := by omega
        rcases this with rfl | rfl <;> (cases h; rfl))⟩
  have C53 : Hid (∀ W, Below w3.heap.size w3 W → Calls Try.prog 53 #[.slice (some ⟨be, 0, none⟩) 2 2, .slice (some ⟨W.heap.size, 0, none⟩) 2 2] (W.alloc (.cells #[.int .i64 2, .int .i64 3] 3)) fun r w' => r = .returned (.bool true) ∧ Below (W.alloc (.cells #[.int .i64 2, .int .i64 3] 3)).heap.size (W.alloc (.cells #[.int .i64 2, .int .i64 3] 3)) w') := by
    intro W hW
    have hX := heap_alloc_new W (.cells #[.int .i64 2, .int .i64 3] 3)
    refine same53 (ca := 2) (cb := 2) [2, 3] ((KI.below hW).below ((Below.refl _ _).alloc (Nat.le_refl _) _)) ?_ (by decide)
    intro j y hy
    have hj : j < 2 := (List.getElem?_eq_some_iff.1 hy).1
    have : j = 0 ∨ j = 1 := by omega
    rcases this with rfl | rfl <;> cases hy
    · exact ⟨_, 0, rfl, by simp only [World.cell?, hX]; rfl⟩
    · exact ⟨_, 0, rfl, by simp only [World.cell?, hX]; rfl⟩
  have C42 : Hid (∀ W, Calls Try.prog 42 #[.agg #[.int .i64 2, .int .i64 1], .agg #[.int .i64 2, .int .i64 2]] W fun r w' => r = .returned (.bool true) ∧ Below W.heap.size W w') := fun W => less42 2 1 2 2 W
  have C47 : Hid (∀ W, Below w3.heap.size w3 W → Calls Try.prog 47 #[.int .i64 3, .slice (some ⟨bv, 0, none⟩) 2 2] W fun r w' => r = .returned (.agg #[.int .i64 7, .int .i64 4]) ∧ Below W.heap.size W w') := fun W hW => combine47 (cap := 2) 3 [(2, 2), (2, 1)] (KV.below hW) (by decide) (by decide) OK (by decide)
  have X0 := r0
  have X1 := r1
  have B3 := Lib.hid (B2.out.trans (b3.mono B2.out.size))
  clear hs hv hf b3 v0 v1 f0 f1 r0 r1 i0 i1 KV KI OK CS
  go_wp2_with fail
  refine start_ (n := 26) (S := fun w' => w'.rangeAt bv 2 [.int .i64 2, .int .i64 1] ∧ w'.rangeAt bv 0 [.int .i64 2, .int .i64 2]) (ds := []) #[false, false, false, false, false, false, false, false, false, false, false, false, false, false, false, false, false, false, false, false, false, false, false, false, false, false] (by kernel_rfl) rfl rfl ⟨X1, X0⟩ (fun hHeld => ?_)
  refine pure_ (i := 0) (N := some 8) (v := ?_) (a' := ?_) #[true, false, false, false, false, false, false, false, false, false, false, false, false, false, false, false, false, false, false, false, false, false, false, false, false, false] rfl rfl (by kernel_rfl) (fun _ _ _ h => h) (Or.inl ⟨by rfl, ?_⟩) ?_ ?_
  rotate_left
  · intro w'
    go_simp
    with_reducible rfl
  rotate_left
  · simp only [Act.put, List.setIfInBounds_toArray, List.set_cons_zero, List.set_cons_succ, i64_w, i32_w]
    rfl
  refine pure_ (i := 1) (N := some 9) (v := ?_) (a' := ?_) #[true, true, false, false, false, false, false, false, false, false, false, false, false, false, false, false, false, false, false, false, false, false, false, false, false, false] rfl rfl (by kernel_rfl) (fun _ _ _ h => h) (Or.inl ⟨by rfl, ?_⟩) ?_ ?_
  rotate_left
  · intro w'
    go_simp
    with_reducible rfl
  rotate_left
  · simp only [Act.put, List.setIfInBounds_toArray, List.set_cons_zero, List.set_cons_succ, i64_w, i32_w]
    rfl
  refine pure_ (i := 2) (N := some 10) (v := ?_) (a' := ?_) #[true, true, true, false, false, false, false, false, false, false, false, false, false, false, false, false, false, false, false, false, false, false, false, false, false, false] rfl rfl (by kernel_rfl) (fun _ _ _ h => h) (Or.inl ⟨by rfl, ?_⟩) ?_ ?_
  rotate_left
  · intro w'
    go_simp
    with_reducible rfl
  rotate_left
  · simp only [Act.put, List.setIfInBounds_toArray, List.set_cons_zero, List.set_cons_succ, i64_w, i32_w]
    rfl
  refine one_ (i := 3) (N := some 11) #[true, true, true, true, false, false, false, false, false, false, false, false, false, false, false, false, false, false, false, false, false, false, false, false, false, false] rfl rfl (by kernel_rfl) (by decide) (fun K hK => ?_)
  refine value_ (w1 := ?_) (v := ?_) (by rfl) rfl ?_ ?_
  rotate_left 2
  · go_simp
    constructor
    · rfl
    · rfl
  refine hK.out _ _ ⟨(rangeAt_eff hHeld.1 (eff_alloc _ _) (fun h => h)), (rangeAt_eff hHeld.2 (eff_alloc _ _) (fun h => h))⟩ (fun hHeld => ?_)
  clear hK K
  refine norm_ (a' := ?_) ?_ ?_
  rotate_left
  · show Act.put _ (some 11) _ = _
    simp only [Act.put, List.setIfInBounds_toArray, List.set_cons_zero, List.set_cons_succ, i64_w, i32_w]
    rfl
  refine one_ (i := 4) (N := some 12) #[true, true, true, true, true, false, false, false, false, false, false, false, false, false, false, false, false, false, false, false, false, false, false, false, false, false] rfl rfl (by kernel_rfl) (by decide) (fun K hK => ?_)
  refine goesV_ Try.func52 (by kernel_rfl) rfl #[.slice (some ⟨bv, 0, none⟩) 2 2, .slice (some ⟨w3.heap.size, 0, none⟩) 2 2] (by rfl) rfl rfl (by rfl) (by simp only [List.map_toArray, List.map_cons, List.map_nil]; rfl) ?_
  with_reducible refine (C52.out w3 (Below.refl _ _)).mono ?_
  rintro r w5 ⟨rfl, b⟩
  have BBw5 : Hid (Below w3.heap.size w3 w5) := ((Below.refl _ _).alloc (Nat.le_refl _) _).drew.trans (b.mono (by simp))
  have bw5 := Eff.of_below b (fun _ => False)
  clear b
  refine ⟨_, rfl, ?_⟩
  refine hK.out _ _ ⟨(rangeAt_eff hHeld.1 bw5 (fun h => h)), (rangeAt_eff hHeld.2 bw5 (fun h => h))⟩ (fun hHeld => ?_)
  clear hK K
  refine norm_ (a' := ?_) ?_ ?_
  rotate_left
  · show Act.put _ (some 12) _ = _
    simp only [Act.put, List.setIfInBounds_toArray, List.set_cons_zero, List.set_cons_succ, i64_w, i32_w]
    rfl
  refine pure_ (i := 5) (N := some 13) (v := ?_) (a' := ?_) #[true, true, true, true, true, true, false, false, false, false, false, false, false, false, false, false, false, false, false, false, false, false, false, false, false, false] rfl rfl (by kernel_rfl) (fun _ _ _ h => h) (Or.inl ⟨by rfl, ?_⟩) ?_ ?_
  rotate_left
  · intro w'
    go_simp
    with_reducible rfl
  rotate_left
  · simp only [Act.put, List.setIfInBounds_toArray, List.set_cons_zero, List.set_cons_succ, i64_w, i32_w]
    rfl
  refine pure_ (i := 6) (N := some 14) (v := ?_) (a' := ?_) #[true, true, true, true, true, true, true, false, false, false, false, false, false, false, false, false, false, false, false, false, false, false, false, false, false, false] rfl rfl (by kernel_rfl) (fun _ _ _ h => h) (Or.inl ⟨by rfl, ?_⟩) ?_ ?_
  rotate_left
  · intro w'
    go_simp
    with_reducible rfl
  rotate_left
  · simp only [Act.put, List.setIfInBounds_toArray, List.set_cons_zero, List.set_cons_succ, i64_w, i32_w]
    rfl
  refine one_ (i := 7) (N := some 15) #[true, true, true, true, true, true, true, true, false, false, false, false, false, false, false, false, false, false, false, false, false, false, false, false, false, false] rfl rfl (by kernel_rfl) (by decide) (fun K hK => ?_)
  refine value_ (w1 := ?_) (v := ?_) (by rfl) rfl ?_ ?_
  rotate_left 2
  · go_simp
    constructor
    · rfl
    · rfl
  refine hK.out _ _ ⟨(rangeAt_eff hHeld.1 (eff_alloc _ _) (fun h => h)), (rangeAt_eff hHeld.2 (eff_alloc _ _) (fun h => h))⟩ (fun hHeld => ?_)
  clear hK K
  refine norm_ (a' := ?_) ?_ ?_
  rotate_left
  · show Act.put _ (some 15) _ = _
    simp only [Act.put, List.setIfInBounds_toArray, List.set_cons_zero, List.set_cons_succ, i64_w, i32_w]
    rfl
  refine one_ (i := 8) (N := some 16) #[true, true, true, true, true, true, true, true, true, false, false, false, false, false, false, false, false, false, false, false, false, false, false, false, false, false] rfl rfl (by kernel_rfl) (by decide) (fun K hK => ?_)
  refine goesV_ Try.func53 (by kernel_rfl) rfl #[.slice (some ⟨be, 0, none⟩) 2 2, .slice (some ⟨w5.heap.size, 0, none⟩) 2 2] (by rfl) rfl rfl (by rfl) (by simp only [List.map_toArray, List.map_cons, List.map_nil]; rfl) ?_
  with_reducible refine (C53.out w5 BBw5.out).mono ?_
  rintro r w7 ⟨rfl, b⟩
  have BBw7 : Hid (Below w3.heap.size w3 w7) := (BBw5.out.trans (((Below.refl _ _).alloc (Nat.le_refl _) _).mono (BBw5.out).size)).trans (b.mono (by have := BBw5.out.size; simp; omega))
  have bw7 := Eff.of_below b (fun _ => False)
  clear b
  refine ⟨_, rfl, ?_⟩
  refine hK.out _ _ ⟨(rangeAt_eff hHeld.1 bw7 (fun h => h)), (rangeAt_eff hHeld.2 bw7 (fun h => h))⟩ (fun hHeld => ?_)
  clear hK K
  refine norm_ (a' := ?_) ?_ ?_
  rotate_left
  · show Act.put _ (some 16) _ = _
    simp only [Act.put, List.setIfInBounds_toArray, List.set_cons_zero, List.set_cons_succ, i64_w, i32_w]
    rfl
  refine pure_ (i := 9) (N := some 17) (v := ?_) (a' := ?_) #[true, true, true, true, true, true, true, true, true, true, false, false, false, false, false, false, false, false, false, false, false, false, false, false, false, false] rfl rfl (by kernel_rfl) (fun _ _ _ h => h) (Or.inl ⟨by rfl, ?_⟩) ?_ ?_
  rotate_left
  · intro w'
    go_simp
    with_reducible rfl
  rotate_left
  · simp only [Act.put, List.setIfInBounds_toArray, List.set_cons_zero, List.set_cons_succ, i64_w, i32_w]
    rfl
  refine pure_ (i := 10) (N := some 18) (v := ?_) (a' := ?_) #[true, true, true, true, true, true, true, true, true, true, true, false, false, false, false, false, false, false, false, false, false, false, false, false, false, false] rfl rfl (by kernel_rfl) (fun _ _ _ h => h) (Or.inl ⟨by rfl, ?_⟩) ?_ ?_
  rotate_left
  · intro w'
    go_simp
    with_reducible rfl
  rotate_left
  · simp only [Act.put, List.setIfInBounds_toArray, List.set_cons_zero, List.set_cons_succ, i64_w, i32_w]
    rfl
  refine pure_ (i := 11) (N := some 19) (v := ?_) (a' := ?_) #[true, true, true, true, true, true, true, true, true, true, true, true, false, false, false, false, false, false, false, false, false, false, false, false, false, false] rfl rfl (by kernel_rfl) (fun _ _ _ h => h) (Or.inl ⟨by rfl, ?_⟩) ?_ ?_
  rotate_left
  · intro w'
    go_simp
    with_reducible rfl
  rotate_left
  · simp only [Act.put, List.setIfInBounds_toArray, List.set_cons_zero, List.set_cons_succ, i64_w, i32_w]
    rfl
  refine pure_ (i := 12) (N := some 20) (v := ?_) (a' := ?_) #[true, true, true, true, true, true, true, true, true, true, true, true, true, false, false, false, false, false, false, false, false, false, false, false, false, false] rfl rfl (by kernel_rfl) (fun _ _ _ h => h) (Or.inl ⟨by rfl, ?_⟩) ?_ ?_
  rotate_left
  · intro w'
    go_simp
    with_reducible rfl
  rotate_left
  · simp only [Act.put, List.setIfInBounds_toArray, List.set_cons_zero, List.set_cons_succ, i64_w, i32_w]
    rfl
  refine pure_ (i := 14) (N := some 22) (v := ?_) (a' := ?_) #[true, true, true, true, true, true, true, true, true, true, true, true, true, false, true, false, false, false, false, false, false, false, false, false, false, false] rfl rfl (by kernel_rfl) (fun _ _ _ h => h) (Or.inl ⟨by rfl, ?_⟩) ?_ ?_
  rotate_left
  · intro w'
    go_simp
    with_reducible rfl
  rotate_left
  · simp only [Act.put, List.setIfInBounds_toArray, List.set_cons_zero, List.set_cons_succ, i64_w, i32_w]
    rfl
  refine pure_ (i := 15) (N := some 23) (v := ?_) (a' := ?_) #[true, true, true, true, true, true, true, true, true, true, true, true, true, false, true, true, false, false, false, false, false, false, false, false, false, false] rfl rfl (by kernel_rfl) (fun _ _ _ h => h) (Or.inl ⟨by rfl, ?_⟩) ?_ ?_
  rotate_left
  · intro w'
    go_simp
    with_reducible rfl
  rotate_left
  · simp only [Act.put, List.setIfInBounds_toArray, List.set_cons_zero, List.set_cons_succ, i64_w, i32_w]
    rfl
  refine take_ (i := 13) (N := some 21) (a' := ?_) #[true, true, true, true, true, true, true, true, true, true, true, true, true, true, true, true, false, false, false, false, false, false, false, false, false, false] rfl rfl (by kernel_rfl) (fun _ _ _ h => h) (yieldsIf_load_mid (by rfl) 54 _ rfl bv 2 (by rfl) [.int .i64 2, .int .i64 1] _ (fun w' h => h.1) Try.underlying54 rfl (by kernel_rfl)) hHeld ?_ ?_
  rotate_left
  · simp only [Act.put, List.setIfInBounds_toArray, List.set_cons_zero, List.set_cons_succ, i64_w, i32_w]
    rfl
  refine take_ (i := 16) (N := some 24) (a' := ?_) #[true, true, true, true, true, true, true, true, true, true, true, true, true, true, true, true, true, false, false, false, false, false, false, false, false, false] rfl rfl (by kernel_rfl) (fun _ _ _ h => h) (yieldsIf_load_mid (by rfl) 54 _ rfl bv 0 (by rfl) [.int .i64 2, .int .i64 2] _ (fun w' h => h.2) Try.underlying54 rfl (by kernel_rfl)) hHeld ?_ ?_
  rotate_left
  · simp only [Act.put, List.setIfInBounds_toArray, List.set_cons_zero, List.set_cons_succ, i64_w, i32_w]
    rfl
  refine one_ (i := 17) (N := some 25) #[true, true, true, true, true, true, true, true, true, true, true, true, true, true, true, true, true, true, false, false, false, false, false, false, false, false] rfl rfl (by kernel_rfl) (by decide) (fun K hK => ?_)
  refine goesV_ Try.func42 (by kernel_rfl) rfl #[.agg #[.int .i64 2, .int .i64 1], .agg #[.int .i64 2, .int .i64 2]] (by rfl) rfl rfl (by rfl) (by simp only [List.map_toArray, List.map_cons, List.map_nil]; rfl) ?_
  with_reducible refine (C42.out w7).mono ?_
  rintro r w8 ⟨rfl, b⟩
  have BBw8 : Hid (Below w3.heap.size w3 w8) := BBw7.out.trans (b.mono BBw7.out.size)
  have bw8 := Eff.of_below b (fun _ => False)
  clear b
  refine ⟨_, rfl, ?_⟩
  refine hK.out _ _ ⟨(rangeAt_eff hHeld.1 bw8 (fun h => h)), (rangeAt_eff hHeld.2 bw8 (fun h => h))⟩ (fun hHeld => ?_)
  clear hK K
  refine norm_ (a' := ?_) ?_ ?_
  rotate_left
  · show Act.put _ (some 25) _ = _
    simp only [Act.put, List.setIfInBounds_toArray, List.set_cons_zero, List.set_cons_succ, i64_w, i32_w]
    rfl
  refine pure_ (i := 18) (N := some 26) (v := ?_) (a' := ?_) #[true, true, true, true, true, true, true, true, true, true, true, true, true, true, true, true, true, true, true, false, false, false, false, false, false, false] rfl rfl (by kernel_rfl) (fun _ _ _ h => h) (Or.inl ⟨by rfl, ?_⟩) ?_ ?_
  rotate_left
  · intro w'
    go_simp
    with_reducible rfl
  rotate_left
  · simp only [Act.put, List.setIfInBounds_toArray, List.set_cons_zero, List.set_cons_succ, i64_w, i32_w]
    rfl
  refine pure_ (i := 19) (N := some 27) (v := ?_) (a' := ?_) #[true, true, true, true, true, true, true, true, true, true, true, true, true, true, true, true, true, true, true, true, false, false, false, false, false, false] rfl rfl (by kernel_rfl) (fun _ _ _ h => h) (Or.inl ⟨by rfl, ?_⟩) ?_ ?_
  rotate_left
  · intro w'
    go_simp
    with_reducible rfl
  rotate_left
  · simp only [Act.put, List.setIfInBounds_toArray, List.set_cons_zero, List.set_cons_succ, i64_w, i32_w]
    rfl
  refine pure_ (i := 20) (N := some 28) (v := ?_) (a' := ?_) #[true, true, true, true, true, true, true, true, true, true, true, true, true, true, true, true, true, true, true, true, true, false, false, false, false, false] rfl rfl (by kernel_rfl) (fun _ _ _ h => h) (Or.inl ⟨by rfl, ?_⟩) ?_ ?_
  rotate_left
  · intro w'
    go_simp
    with_reducible rfl
  rotate_left
  · simp only [Act.put, List.setIfInBounds_toArray, List.set_cons_zero, List.set_cons_succ, i64_w, i32_w]
    rfl
  refine pure_ (i := 22) (N := some 30) (v := ?_) (a' := ?_) #[true, true, true, true, true, true, true, true, true, true, true, true, true, true, true, true, true, true, true, true, true, false, true, false, false, false] rfl rfl (by kernel_rfl) (fun _ _ _ h => h) (Or.inl ⟨by rfl, ?_⟩) ?_ ?_
  rotate_left
  · intro w'
    go_simp
    with_reducible rfl
  rotate_left
  · simp only [Act.put, List.setIfInBounds_toArray, List.set_cons_zero, List.set_cons_succ, i64_w, i32_w]
    rfl
  refine one_ (i := 21) (N := some 29) #[true, true, true, true, true, true, true, true, true, true, true, true, true, true, true, true, true, true, true, true, true, true, true, false, false, false] rfl rfl (by kernel_rfl) (by decide) (fun K hK => ?_)
  refine goesV_ Try.func47 (by kernel_rfl) rfl #[.int .i64 3, .slice (some ⟨bv, 0, none⟩) 2 2] (by rfl) rfl rfl (by rfl) (by simp only [List.map_toArray, List.map_cons, List.map_nil]; rfl) ?_
  with_reducible refine (C47.out w8 BBw8.out).mono ?_
  rintro r w9 ⟨rfl, b⟩
  have BBw9 : Hid (Below w3.heap.size w3 w9) := BBw8.out.trans (b.mono BBw8.out.size)
  have bw9 := Eff.of_below b (fun _ => False)
  clear b
  refine ⟨_, rfl, ?_⟩
  refine hK.out _ _ ⟨(rangeAt_eff hHeld.1 bw9 (fun h => h)), (rangeAt_eff hHeld.2 bw9 (fun h => h))⟩ (fun hHeld => ?_)
  clear hK K
  refine norm_ (a' := ?_) ?_ ?_
  rotate_left
  · show Act.put _ (some 29) _ = _
    simp only [Act.put, List.setIfInBounds_toArray, List.set_cons_zero, List.set_cons_succ, i64_w, i32_w]
    rfl
  refine pure_ (i := 23) (N := some 31) (v := ?_) (a' := ?_) #[true, true, true, true, true, true, true, true, true, true, true, true, true, true, true, true, true, true, true, true, true, true, true, true, false, false] rfl rfl (by kernel_rfl) (fun _ _ _ h => h) (Or.inl ⟨by rfl, ?_⟩) ?_ ?_
  rotate_left
  · intro w'
    go_simp
    with_reducible rfl
  rotate_left
  · simp only [Act.put, List.setIfInBounds_toArray, List.set_cons_zero, List.set_cons_succ, i64_w, i32_w]
    rfl
  refine pure_ (i := 24) (N := some 32) (v := ?_) (a' := ?_) #[true, true, true, true, true, true, true, true, true, true, true, true, true, true, true, true, true, true, true, true, true, true, true, true, true, false] rfl rfl (by kernel_rfl) (fun _ _ _ h => h) (Or.inl ⟨by rfl, ?_⟩) ?_ ?_
  rotate_left
  · intro w'
    go_simp
    with_reducible rfl
  rotate_left
  · simp only [Act.put, List.setIfInBounds_toArray, List.set_cons_zero, List.set_cons_succ, i64_w, i32_w]
    rfl
  refine pure_ (i := 25) (N := some 0) (v := ?_) (a' := ?_) #[true, true, true, true, true, true, true, true, true, true, true, true, true, true, true, true, true, true, true, true, true, true, true, true, true, true] rfl rfl (by kernel_rfl) (fun _ _ _ h => h) (Or.inl ⟨by rfl, ?_⟩) ?_ ?_
  rotate_left
  · intro w'
    go_simp
    with_reducible rfl
  rotate_left
  · simp only [Act.put, List.setIfInBounds_toArray, List.set_cons_zero, List.set_cons_succ, i64_w, i32_w]
    rfl
  refine done_ (by kernel_rfl) ?_
  clear hHeld X0 X1
  go_wp2_with fail
  go_ret
  exact ⟨rfl, B3.out.trans (BBw9.out.mono B3.out.size)⟩
end Go.Proofs.Ytepfbhigeghjjaa.Q
