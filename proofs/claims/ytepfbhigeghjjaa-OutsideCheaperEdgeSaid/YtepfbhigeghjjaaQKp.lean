/- The queue at K.K3: Push. -/
import Derived.Test.YtepfbhigeghjjaaQKu
namespace Go.Proofs.Ytepfbhigeghjjaa.Q
open Go.RowKit Go.Proofs.YtepfbhigeghjjaaW.PrintLast
set_option linter.unusedVariables false
set_option linter.unusedSimpArgs false

/-! ### Push */ -/
set_option maxHeartbeats 2000000 in
set_option maxRecDepth 100000 in
theorem push_K {B : Nat} {w : World} {g mb : Nat} {hv : Value} {es : List (En K.K3)} {nx ck : Int} (hq : IsQ 131 135 lessK B w g hv mb es nx ck) (hh : Heap es) (hnx : ∀ e ∈ es, e.h ≠ nx) (hn0 : 0 ≤ nx) (hn1 : nx ≤ 1000000000) (hc0 : 0 ≤ ck) (hc1 : ck ≤ 1000000000) (hlen : es.length < 1000000000) (x : K.K3) :
    Calls Try.prog 94 #[.pointer (some ⟨g, 0, none⟩), .agg #[.int .i64 x.node, .int .i64 x.c, .int .i64 x.s]] w (PushPost 131 135 lessK B w g hv mb es nx ck x) := by
  have hgl := (Array.getElem?_eq_some_iff.1 hq.blk).1
  have hlt : ∀ k, hv.ownBlock = some k → k < w.heap.size := fun k h => (Row.lt hq.row k h).2
  have hgne : hv.ownBlock ≠ some g := Row.ne hq.row hq.blk (by decide)
  obtain ⟨A, cap, hvA⟩ := hq.lens
  have HV := Lib.hid hvA
  obtain ⟨bx, hbx⟩ : ∃ b, b = w.heap.size := ⟨_, rfl⟩
  obtain ⟨W1, hW1⟩ : ∃ W, W = w.alloc (.cells #[.int .i64 x.node, .int .i64 x.c, .int .i64 x.s] 110) := ⟨_, rfl⟩
  have E1 : Hid (Eff (fun _ => False) w W1) := by rw [hW1]; exact eff_alloc w _
  have Z1 : Hid (W1.heap.size = w.heap.size + 1) := by show _ = _; rw [hW1]; simp
  have GB : Hid (W1.heap[g]? = some (.cells #[lessK, hv, .map (some mb), .int .i64 nx, .int .i64 ck] 131 (0, 0))) := E1.out.heap hq.blk (fun h => h)
  have X0 : W1.heap[bx]? = some (.cells #[.int .i64 x.node, .int .i64 x.c, .int .i64 x.s] 110 (0, 0)) := by rw [hbx, hW1]; exact heap_alloc_new w _
  have X1 : W1.rangeAt bx 0 [.int .i64 x.node, .int .i64 x.c, .int .i64 x.s] := box_range (L := [.int .i64 x.node, .int .i64 x.c, .int .i64 x.s]) X0 0 _ (fun j v h => by rw [Nat.zero_add]; exact h)
  have c1 : W1.cell? ⟨g, 1, none⟩ = some (.slice A es.length cap) := by rw [← hvA]; exact blk_cell1 GB.out
  have c2 : W1.cell? ⟨g, 3, none⟩ = some (.int .i64 nx) := by simp [World.cell?, GB.out]
  have c3 : W1.cell? ⟨g, 4, none⟩ = some (.int .i64 ck) := by simp [World.cell?, GB.out]
  have gne : Hid (¬ some g = (Value.slice A es.length cap).ownBlock) := fun e => hgne (by rw [hvA]; exact e.symm)
  have bne : Hid (¬ some bx = (Value.slice A es.length cap).ownBlock) := fun e => by
    have := hlt bx (by rw [hvA]; exact e.symm)
    omega
  have hBl : B ≤ w.heap.size := Nat.le_trans hq.gB (Nat.le_of_lt hgl)
  have AP : Hid (∀ W : World, Eff (fun _ => False) w W → ∃ v1 w3, (Builtin.append_ #[129, 129] 129 #[.slice A es.length cap, .slice (some ⟨W.heap.size, 0, none⟩) 1 1]).run Try.prog (W.alloc (.cells (enc (⟨x, nx, ck⟩ : En K.K3)).toArray 135)) = .ok v1 w3 ∧ w3.ownsRow B 135 5 v1 (es.length + 1) (flat es ++ enc ⟨x, nx, ck⟩) ∧
      (W.alloc (.cells (enc (⟨x, nx, ck⟩ : En K.K3)).toArray 135)).grownBy w3 (Value.slice A es.length cap).ownBlock ∧ (v1 = .slice none 0 0 ↔ Value.slice A es.length cap = .slice none 0 0 ∧ 1 = 0) ∧ (v1.ownBlock = (Value.slice A es.length cap).ownBlock ∨ v1.ownBlock = some (W.alloc (.cells (enc (⟨x, nx, ck⟩ : En K.K3)).toArray 135)).heap.size)) := by
    intro W hW
    obtain ⟨i0, hi0, hz0, hz1, hz2⟩ := info_parts (show (Try.prog.info? 135).map (fun i => (i.zero, i.size, i.bytes)) = some (some (.agg #[.int .i64 0, .int .i64 0, .int .i64 0, .int .i64 0, .int .i64 0]), 5, 40) from by kernel_rfl)
    have hrow := (Row.eff hq.row hW (fun _ _ h => h)).eff (eff_alloc W (.cells (enc (⟨x, nx, ck⟩ : En K.K3)).toArray 135)) (fun _ _ h => h)
    rw [hvA] at hrow
    exact run_append_own_at (P := Try.prog) (W.alloc (.cells (enc (⟨x, nx, ck⟩ : En K.K3)).toArray 135)) B 129 129 135 i0 (.agg #[.int .i64 0, .int .i64 0, .int .i64 0, .int .i64 0, .int .i64 0]) 5 40 Try.underlying129 hi0 hz0 hz1 hz2 rfl (by decide) _ es.length (flat es) hrow
      ⟨W.heap.size, 0, none⟩ 1 1 (enc ⟨x, nx, ck⟩) rfl (fun j u hu => by rw [Addr.add_mid]; exact box_range (heap_alloc_new W _) 0 _ (fun j v h => by rw [Nat.zero_add]; exact h) j u hu) (fun u hu => Array.all_eq_true_iff_forall_mem.1 (enc_all (⟨x, nx, ck⟩ : En K.K3)) u (by simpa using hu)) (by simp only [maxLen]; omega) (by omega) (by have := hW.size; simp; omega)
  have HQ := Lib.hid hq
  have HH := Lib.hid hh
  have HNX := Lib.hid hnx
  have HBL := Lib.hid hBl
  have HLT := Lib.hid hlt
  have HGN := Lib.hid hgne
  have HX := Lib.hid hbx
  have CC := Lib.hid (And.intro c1 (And.intro c2 c3))
  have hn2 : (es.length : Int) < 1000000000 := by omega
  clear hq hh hnx hvA hBl hlt hgne c1 c2 c3 X0 hbx
  go_enter Try.func94, Try.ntmps94
  go_wp2_with fail
  rw [← hW1, ← HX.out]
  clear hW1
  obtain ⟨c1, c2, c3⟩ := CC.out
  refine start_ (n := 11) (S := fun w' => w'.cell? ⟨g, 1, none⟩ = some (.slice A es.length cap) ∧ w'.cell? ⟨g, 3, none⟩ = some (.int .i64 nx)) (ds := []) #[false, false, false, false, false, false, false, false, false, false, false] (by kernel_rfl) rfl rfl ⟨c1, c2⟩ (fun hHeld => ?_)
  refine pure_ (i := 0) (N := some 7) (v := ?_) (a' := ?_) #[true, false, false, false, false, false, false, false, false, false, false] rfl rfl (by kernel_rfl) (fun _ _ _ h => h) (Or.inl ⟨by rfl, ?_⟩) ?_ ?_
  rotate_left
  · intro w'
    go_simp
    with_reducible rfl
  rotate_left
  · simp only [Act.put, List.setIfInBounds_toArray, List.set_cons_zero, List.set_cons_succ, i64_w, i32_w]
    rfl
  refine pure_ (i := 1) (N := some 8) (v := ?_) (a' := ?_) #[true, true, false, false, false, false, false, false, false, false, false] rfl rfl (by kernel_rfl) (fun _ _ _ h => h) (Or.inl ⟨by rfl, ?_⟩) ?_ ?_
  rotate_left
  · intro w'
    go_simp
    with_reducible rfl
  rotate_left
  · simp only [Act.put, List.setIfInBounds_toArray, List.set_cons_zero, List.set_cons_succ, i64_w, i32_w]
    rfl
  refine pure_ (i := 2) (N := some 9) (v := ?_) (a' := ?_) #[true, true, true, false, false, false, false, false, false, false, false] rfl rfl (by kernel_rfl) (fun _ _ _ h => h) (Or.inl ⟨by rfl, ?_⟩) ?_ ?_
  rotate_left
  · intro w'
    go_simp
    with_reducible rfl
  rotate_left
  · simp only [Act.put, List.setIfInBounds_toArray, List.set_cons_zero, List.set_cons_succ, i64_w, i32_w]
    rfl
  refine pure_ (i := 4) (N := some 11) (v := ?_) (a' := ?_) #[true, true, true, false, true, false, false, false, false, false, false] rfl rfl (by kernel_rfl) (fun _ _ _ h => h) (Or.inl ⟨by rfl, ?_⟩) ?_ ?_
  rotate_left
  · intro w'
    go_simp
    with_reducible rfl
  rotate_left
  · simp only [Act.put, List.setIfInBounds_toArray, List.set_cons_zero, List.set_cons_succ, i64_w, i32_w]
    rfl
  refine pure_ (i := 5) (N := some 12) (v := ?_) (a' := ?_) #[true, true, true, false, true, true, false, false, false, false, false] rfl rfl (by kernel_rfl) (fun _ _ _ h => h) (Or.inl ⟨by rfl, ?_⟩) ?_ ?_
  rotate_left
  · intro w'
    go_simp
    with_reducible rfl
  rotate_left
  · simp only [Act.put, List.setIfInBounds_toArray, List.set_cons_zero, List.set_cons_succ, i64_w, i32_w]
    rfl
  refine pure_ (i := 6) (N := some 13) (v := ?_) (a' := ?_) #[true, true, true, false, true, true, true, false, false, false, false] rfl rfl (by kernel_rfl) (fun _ _ _ h => h) (Or.inl ⟨by rfl, ?_⟩) ?_ ?_
  rotate_left
  · intro w'
    go_simp
    with_reducible rfl
  rotate_left
  · simp only [Act.put, List.setIfInBounds_toArray, List.set_cons_zero, List.set_cons_succ, i64_w, i32_w]
    rfl
  refine take_ (i := 3) (N := some 10) (v := ?_) (a' := ?_) #[true, true, true, true, true, true, true, false, false, false, false] rfl rfl (by kernel_rfl) (fun _ _ _ h => h) (Or.inl ⟨by rfl, ?_⟩) hHeld ?_ ?_
  rotate_left
  · rintro w' ⟨s0, s1⟩
    go_simp
    with_reducible rfl
  rotate_left
  · simp only [Act.put, List.setIfInBounds_toArray, List.set_cons_zero, List.set_cons_succ, i64_w, i32_w]
    rfl
  refine pure_ (i := 9) (N := some 5) (v := ?_) (a' := ?_) #[true, true, true, true, true, true, true, false, false, true, false] rfl rfl (by kernel_rfl) (fun _ _ _ h => h) (Or.inl ⟨by rfl, ?_⟩) ?_ ?_
  rotate_left
  · intro w'
    go_simp
    with_reducible rfl
  rotate_left
  · simp only [Act.put, List.setIfInBounds_toArray, List.set_cons_zero, List.set_cons_succ, i64_w, i32_w]
    rfl
  refine take_ (i := 7) (N := some 14) (v := ?_) (a' := ?_) #[true, true, true, true, true, true, true, true, false, true, false] rfl rfl (by kernel_rfl) (fun _ _ _ h => h) (Or.inl ⟨by rfl, ?_⟩) hHeld ?_ ?_
  rotate_left
  · rintro w' ⟨s0, s1⟩
    go_simp
    with_reducible rfl
  rotate_left
  · simp only [Act.put, List.setIfInBounds_toArray, List.set_cons_zero, List.set_cons_succ, i64_w, i32_w]
    rfl
  refine pure_ (i := 8) (N := some 15) (v := ?_) (a' := ?_) #[true, true, true, true, true, true, true, true, true, true, false] rfl rfl (by kernel_rfl) (fun _ _ _ h => h) (Or.inl ⟨by rfl, ?_⟩) ?_ ?_
  rotate_left
  · intro w'
    go_simp
    with_reducible rfl
  rotate_left
  · simp only [Act.put, List.setIfInBounds_toArray, List.set_cons_zero, List.set_cons_succ, i64_w, i32_w]
    rfl
  refine pure_ (i := 10) (N := some 6) (v := ?_) (a' := ?_) #[true, true, true, true, true, true, true, true, true, true, true] rfl rfl (by kernel_rfl) (fun _ _ _ h => h) (Or.inl ⟨by rfl, ?_⟩) ?_ ?_
  rotate_left
  · intro w'
    go_simp
    with_reducible rfl
  rotate_left
  · simp only [Act.put, List.setIfInBounds_toArray, List.set_cons_zero, List.set_cons_succ, i64_w, i32_w]
    rfl
  refine done_ (by kernel_rfl) ?_
  go_wp2_with fail
  obtain ⟨W1', hW1'⟩ : ∃ W, W = W1.drew := ⟨_, rfl⟩
  rw [← hW1']
  have E1 : Hid (Eff (fun _ => False) w W1') := by rw [hW1']; exact E1.out.drew
  have GB : Hid (W1'.heap[g]? = some (.cells #[lessK, hv, .map (some mb), .int .i64 nx, .int .i64 ck] 131 (0, 0))) := by rw [hW1']; exact GB.out
  have X1 : W1'.rangeAt bx 0 [.int .i64 x.node, .int .i64 x.c, .int .i64 x.s] := by rw [hW1']; exact X1
  have c1 : W1'.cell? ⟨g, 1, none⟩ = some (.slice A es.length cap) := by rw [hW1']; exact c1
  have c2 : W1'.cell? ⟨g, 3, none⟩ = some (.int .i64 nx) := by rw [hW1']; exact c2
  have c3 : W1'.cell? ⟨g, 4, none⟩ = some (.int .i64 ck) := by rw [hW1']; exact c3
  have Z1 : Hid (W1'.heap.size = w.heap.size + 1) := by show _ = _; rw [hW1']; exact Z1.out
  clear hW1' hHeld
  refine start_ (n := 17) (S := fun w' => w'.cell? ⟨g, 1, none⟩ = some (.slice A es.length cap) ∧ w'.rangeAt bx 0 [.int .i64 x.node, .int .i64 x.c, .int .i64 x.s] ∧ w'.cell? ⟨g, 4, none⟩ = some (.int .i64 ck)) (ds := [16]) #[false, false, false, false, false, false, false, false, false, false, false, false, false, false, false, false, false] (by kernel_rfl) rfl rfl ⟨c1, X1, c3⟩ (fun hHeld => ?_)
  refine pure_ (i := 0) (N := some 16) (v := ?_) (a' := ?_) #[true, false, false, false, false, false, false, false, false, false, false, false, false, false, false, false, false] rfl rfl (by kernel_rfl) (fun _ _ _ h => h) (Or.inl ⟨by rfl, ?_⟩) ?_ ?_
  rotate_left
  · intro w'
    go_simp
    with_reducible rfl
  rotate_left
  · simp only [Act.put, List.setIfInBounds_toArray, List.set_cons_zero, List.set_cons_succ, i64_w, i32_w]
    rfl
  refine pure_ (i := 1) (N := some 17) (v := ?_) (a' := ?_) #[true, true, false, false, false, false, false, false, false, false, false, false, false, false, false, false, false] rfl rfl (by kernel_rfl) (fun _ _ _ h => h) (Or.inl ⟨by rfl, ?_⟩) ?_ ?_
  rotate_left
  · intro w'
    go_simp
    with_reducible rfl
  rotate_left
  · simp only [Act.put, List.setIfInBounds_toArray, List.set_cons_zero, List.set_cons_succ, i64_w, i32_w]
    rfl
  refine pure_ (i := 2) (N := some 18) (v := ?_) (a' := ?_) #[true, true, true, false, false, false, false, false, false, false, false, false, false, false, false, false, false] rfl rfl (by kernel_rfl) (fun _ _ _ h => h) (Or.inl ⟨by rfl, ?_⟩) ?_ ?_
  rotate_left
  · intro w'
    go_simp
    with_reducible rfl
  rotate_left
  · simp only [Act.put, List.setIfInBounds_toArray, List.set_cons_zero, List.set_cons_succ, i64_w, i32_w]
    rfl
  refine pure_ (i := 3) (N := some 19) (v := ?_) (a' := ?_) #[true, true, true, true, false, false, false, false, false, false, false, false, false, false, false, false, false] rfl rfl (by kernel_rfl) (fun _ _ _ h => h) (Or.inl ⟨by rfl, ?_⟩) ?_ ?_
  rotate_left
  · intro w'
    go_simp
    with_reducible rfl
  rotate_left
  · simp only [Act.put, List.setIfInBounds_toArray, List.set_cons_zero, List.set_cons_succ, i64_w, i32_w]
    rfl
  refine pure_ (i := 6) (N := some 22) (v := ?_) (a' := ?_) #[true, true, true, true, false, false, true, false, false, false, false, false, false, false, false, false, false] rfl rfl (by kernel_rfl) (fun _ _ _ h => h) (Or.inl ⟨by rfl, ?_⟩) ?_ ?_
  rotate_left
  · intro w'
    go_simp
    with_reducible rfl
  rotate_left
  · simp only [Act.put, List.setIfInBounds_toArray, List.set_cons_zero, List.set_cons_succ, i64_w, i32_w]
    rfl
  refine pure_ (i := 7) (N := some 23) (v := ?_) (a' := ?_) #[true, true, true, true, false, false, true, true, false, false, false, false, false, false, false, false, false] rfl rfl (by kernel_rfl) (fun _ _ _ h => h) (Or.inl ⟨by rfl, ?_⟩) ?_ ?_
  rotate_left
  · intro w'
    go_simp
    with_reducible rfl
  rotate_left
  · simp only [Act.put, List.setIfInBounds_toArray, List.set_cons_zero, List.set_cons_succ, i64_w, i32_w]
    rfl
  refine pure_ (i := 8) (N := some 24) (v := ?_) (a' := ?_) #[true, true, true, true, false, false, true, true, true, false, false, false, false, false, false, false, false] rfl rfl (by kernel_rfl) (fun _ _ _ h => h) (Or.inl ⟨by rfl, ?_⟩) ?_ ?_
  rotate_left
  · intro w'
    go_simp
    with_reducible rfl
  rotate_left
  · simp only [Act.put, List.setIfInBounds_toArray, List.set_cons_zero, List.set_cons_succ, i64_w, i32_w]
    rfl
  refine pure_ (i := 9) (N := some 25) (v := ?_) (a' := ?_) #[true, true, true, true, false, false, true, true, true, true, false, false, false, false, false, false, false] rfl rfl (by kernel_rfl) (fun _ _ _ h => h) (Or.inl ⟨by rfl, ?_⟩) ?_ ?_
  rotate_left
  · intro w'
    go_simp
    with_reducible rfl
  rotate_left
  · simp only [Act.put, List.setIfInBounds_toArray, List.set_cons_zero, List.set_cons_succ, i64_w, i32_w]
    rfl
  refine take_ (i := 4) (N := some 20) (v := ?_) (a' := ?_) #[true, true, true, true, true, false, true, true, true, true, false, false, false, false, false, false, false] rfl rfl (by kernel_rfl) (fun _ _ _ h => h) (Or.inl ⟨by rfl, ?_⟩) hHeld ?_ ?_
  rotate_left
  · rintro w' ⟨s0, s1, s2⟩
    go_simp
    with_reducible rfl
  rotate_left
  · simp only [Act.put, List.setIfInBounds_toArray, List.set_cons_zero, List.set_cons_succ, i64_w, i32_w]
    rfl
  refine take_ (i := 5) (N := some 21) (a' := ?_) #[true, true, true, true, true, true, true, true, true, true, false, false, false, false, false, false, false] rfl rfl (by kernel_rfl) (fun _ _ _ h => h) (yieldsIf_load_mid (by rfl) 110 _ rfl bx 0 (by rfl) [.int .i64 x.node, .int .i64 x.c, .int .i64 x.s] _ (fun w' h => h.2.1) Try.underlying110 rfl (by kernel_rfl)) hHeld ?_ ?_
  rotate_left
  · simp only [Act.put, List.setIfInBounds_toArray, List.set_cons_zero, List.set_cons_succ, i64_w, i32_w]
    rfl
  refine take_ (i := 10) (N := some 26) (v := ?_) (a' := ?_) #[true, true, true, true, true, true, true, true, true, true, true, false, false, false, false, false, false] rfl rfl (by kernel_rfl) (fun _ _ _ h => h) (Or.inl ⟨by rfl, ?_⟩) hHeld ?_ ?_
  rotate_left
  · rintro w' ⟨s0, s1, s2⟩
    go_simp
    with_reducible rfl
  rotate_left
  · simp only [Act.put, List.setIfInBounds_toArray, List.set_cons_zero, List.set_cons_succ, i64_w, i32_w]
    rfl
  refine pure_ (i := 11) (N := some 27) (v := ?_) (a' := ?_) #[true, true, true, true, true, true, true, true, true, true, true, true, false, false, false, false, false] rfl rfl (by kernel_rfl) (fun _ _ _ h => h) (Or.inl ⟨by rfl, ?_⟩) ?_ ?_
  rotate_left
  · intro w'
    go_simp
    with_reducible rfl
  rotate_left
  · simp only [Act.put, List.setIfInBounds_toArray, List.set_cons_zero, List.set_cons_succ, i64_w, i32_w]
    rfl
  refine one_ (i := 12) (N := some 28) #[true, true, true, true, true, true, true, true, true, true, true, true, true, false, false, false, false] rfl rfl (by kernel_rfl) (by decide) (fun K hK => ?_)
  refine value_ (w1 := ?_) (v := ?_) (by rfl) rfl ?_ ?_
  rotate_left 2
  · go_simp
    constructor
    · rfl
    · rfl
  refine hK.out _ _ ⟨((eff_alloc _ _).cell hHeld.1 (fun h => h)), (rangeAt_eff hHeld.2.1 (eff_alloc _ _) (fun h => h)), ((eff_alloc _ _).cell hHeld.2.2 (fun h => h))⟩ (fun hHeld => ?_)
  clear hK K
  refine norm_ (a' := ?_) ?_ ?_
  rotate_left
  · show Act.put _ (some 28) _ = _
    simp only [Act.put, List.setIfInBounds_toArray, List.set_cons_zero, List.set_cons_succ, i64_w, i32_w]
    rfl
  refine one_ (i := 13) (N := some 29) #[true, true, true, true, true, true, true, true, true, true, true, true, true, true, false, false, false] rfl rfl (by kernel_rfl) (by decide) (fun K hK => ?_)
  obtain ⟨v1, w3, hr3, ho3, hg3, hn3, ha3⟩ := AP.out W1'.drew (E1.out.drew)
  refine value_ (w1 := w3) (v := v1) (by rfl) rfl (exec_append rfl (by rfl) (by rfl) hr3) ?_
  have HE3 := Lib.hid (Eff.of_grown hg3)
  have HO3 := Lib.hid ho3
  have HA3 := Lib.hid ha3
  obtain ⟨A3, c3', hv3⟩ := own_slice ho3
  clear hr3 ho3 hg3 hn3 ha3
  refine hK.out _ _ ⟨(HE3.out.cell hHeld.1 gne.out), (rangeAt_eff hHeld.2.1 HE3.out (by exact bne.out)), (HE3.out.cell hHeld.2.2 gne.out)⟩ (fun hHeld => ?_)
  clear hK K
  refine norm_ (a' := ?_) ?_ ?_
  rotate_left
  · show Act.put _ (some 29) _ = _
    simp only [Act.put, List.setIfInBounds_toArray, List.set_cons_zero, List.set_cons_succ, i64_w, i32_w]
    rfl
  refine pure_ (i := 14) (N := some 30) (v := ?_) (a' := ?_) #[true, true, true, true, true, true, true, true, true, true, true, true, true, true, true, false, false] rfl rfl (by kernel_rfl) (fun _ _ _ h => h) (Or.inl ⟨by rfl, ?_⟩) ?_ ?_
  rotate_left
  · intro w'
    go_simp
    with_reducible rfl
  rotate_left
  · simp only [Act.put, List.setIfInBounds_toArray, List.set_cons_zero, List.set_cons_succ, i64_w, i32_w]
    rfl
  refine pure_ (i := 15) (N := some 31) (v := ?_) (a' := ?_) #[true, true, true, true, true, true, true, true, true, true, true, true, true, true, true, true, false] rfl rfl (by kernel_rfl) (fun _ _ _ h => h) (Or.inl ⟨by rfl, ?_⟩) ?_ ?_
  rotate_left
  · intro w'
    go_simp
    with_reducible rfl
  rotate_left
  · simp only [Act.put, List.setIfInBounds_toArray, List.set_cons_zero, List.set_cons_succ, i64_w, i32_w]
    rfl
  refine last_ (i := 16) (N := none) #[true, true, true, true, true, true, true, true, true, true, true, true, true, true, true, true, true] rfl rfl (by kernel_rfl) (by decide) (fun K hK => ?_)
  have hb3 := HE3.out.heap ((eff_alloc W1'.drew _).heap GB.out (fun h => h)) gne.out
  refine skip_ (w1 := w3.setCell ⟨g, 1, none⟩ v1) (by rfl) rfl (run_u (run_storeAt_one (by kernel_rfl) (by rw [hv3]; rfl) (o := .slice A es.length cap) (by rw [← HV.out]; simp [World.cell?, hb3]) (frozen_blk hb3 1))) ?_
  refine hK.out _ _ ?_
  clear hK K
  refine done_ (by kernel_rfl) ?_
  have hb3' := HE3.out.heap ((eff_alloc W1'.drew _).heap (show W1'.drew.heap[g]? = _ from GB.out) (fun h => h)) gne.out
  obtain ⟨W4, hW4⟩ : ∃ W, W = w3.setCell ⟨g, 1, none⟩ v1 := ⟨_, rfl⟩
  rw [← hW4]
  have G4 : Hid (W4.heap[g]? = some (.cells #[lessK, v1, .map (some mb), .int .i64 nx, .int .i64 ck] 131 (0, 0))) := by
    show _ = _
    rw [hW4]
    exact set_cell hb3' 1 v1
  have HVO : Hid ((Value.slice A es.length cap).ownBlock = hv.ownBlock) := by show _ = _; rw [HV.out]
  -- what has turned since the call began
  have E4 : Hid (Eff (own g hv mb) w W4) := by
    rw [hW4]
    have h1 : Eff (own g hv mb) w (W1'.drew.alloc (.cells (enc (⟨x, nx, ck⟩ : En K.K3)).toArray 135)) := (E1.out.drew.alloc _).mono (fun _ h => h.elim)
    exact (h1.trans HE3.out (fun k h => .inl (.inr (.inl (by rw [← HVO.out]; exact h))))).trans (eff_setCell w3 g 1 v1) (fun k h => .inl (.inl h))
  have ha4 : v1.ownBlock = hv.ownBlock ∨ ∃ b, v1.ownBlock = some b ∧ w.heap.size < b := by
    rcases HA3.out with h | h
    · exact .inl (h.trans HVO.out)
    · refine .inr ⟨_, h, ?_⟩
      have := E1.out.size
      have := Z1.out
      simp
      omega
  have HA4 := Lib.hid ha4
  have hgv : v1.ownBlock ≠ some g := by
    rcases ha4 with h | ⟨b, h, hb⟩
    · rw [h]; exact HGN.out
    · rw [h]
      intro e
      have h1 := (Array.getElem?_eq_some_iff.1 HQ.out.blk).1
      cases e
      omega
  have hmv : v1.ownBlock ≠ some mb := by
    have hm := HQ.out.map
    rcases ha4 with h | ⟨b, h, hb⟩
    · rw [h]; exact Row.neM HQ.out.row hm
    · rw [h]
      intro e
      obtain ⟨l, clk, hl, _⟩ := hm
      have h1 := (Array.getElem?_eq_some_iff.1 hl.1).1
      cases e
      omega
  have hgm : g ≠ mb := by
    obtain ⟨l, clk, hl, _⟩ := HQ.out.map
    intro e
    have := HQ.out.blk
    rw [e, hl.1] at this
    cases this
  have R4 : Hid (Row 135 B W4 v1 (es ++ [⟨x, nx, ck⟩])) := by
    have h1 : Row 135 B w3 v1 (es ++ [⟨x, nx, ck⟩]) := by
      have := HO3.out
      rw [← flat_snoc] at this
      unfold Row
      rw [List.length_append]
      exact this
    rw [hW4]
    exact h1.eff (eff_setCell w3 g 1 v1) (fun k hk e => hgv (by rw [hk, e]))
  have M4 : Hid (MapAt W4 mb (hidx es)) := by
    have h1 : MapAt (W1'.drew.alloc (.cells (enc (⟨x, nx, ck⟩ : En K.K3)).toArray 135)) mb (hidx es) := HQ.out.map.eff (E1.out.drew.alloc _) (fun h => h)
    rw [hW4]
    exact (h1.eff HE3.out (fun h => by
      have := Row.neM HQ.out.row HQ.out.map
      rw [← HVO.out] at this
      exact this h.symm)).eff (eff_setCell w3 g 1 v1) (fun h => hgm h.symm)
  obtain ⟨l, clk, hml, hf⟩ := M4.out
  have hfn : l.find? (·.1 == nx) = none := by
    have h1 := hf nx
    rw [hidx_none.2 HNX.out] at h1
    cases hfd : l.find? (·.1 == nx) with
    | none => rfl
    | some y => rw [getL, hfd] at h1; cases h1
  obtain ⟨w5, hr5, he5, hz5, hm5⟩ := run_mapUpdateL (P := Try.prog) (T := 87) Try.underlying87 Try.underlying3 hml nx (es.length : Int) hfn
  have G5 : Hid (w5.heap[g]? = some (.cells #[lessK, v1, .map (some mb), .int .i64 nx, .int .i64 ck] 131 (0, 0))) := he5.heap G4.out hgm
  have R5 : Hid (Row 135 B w5 v1 (es ++ [⟨x, nx, ck⟩])) := R4.out.eff he5 (fun k hk e => hmv (by rw [hk, e]))
  have M5 : Hid (MapAt w5 mb (hidx (es ++ [⟨x, nx, ck⟩]))) := ⟨_, _, hm5, fun k => by rw [getL_snoc l nx _ clk hfn, ← hf k]; exact (hidx_snoc es ⟨x, nx, ck⟩ HNX.out k).symm⟩
  have E5 : Hid (Eff (own g hv mb) w w5) := E4.out.trans he5 (fun k h => .inl (.inr (.inr h)))
  have d0 : W4.cell? ⟨g, 2, none⟩ = some (.map (some mb)) := by simp [World.cell?, G4.out]
  have HR5 := Lib.hid hr5
  have HGV := Lib.hid hgv
  have HMV := Lib.hid hmv
  have HGM := Lib.hid hgm
  clear hb3' hW4 hml hf hfn he5 hz5 hm5 hr5 hHeld ha4 hgv hmv hgm c1 c2 c3 CC X1
  go_wp2_with (first | (at_mapUpdate; refine wpL_u rfl rfl (run_u HR5.out) ?_))
  have hwx : IntKind.i64.wrap (nx + 1) = nx + 1 := IntWalk.i64_in _ (by omega)
  have hwc : IntKind.i64.wrap (ck + 1) = ck + 1 := IntWalk.i64_in _ (by omega)
  have d1 : w5.cell? ⟨g, 3, none⟩ = some (.int .i64 nx) := by simp [World.cell?, G5.out]
  have d2 : w5.cell? ⟨g, 4, none⟩ = some (.int .i64 ck) := by simp [World.cell?, G5.out]
  have G6 : Hid ((w5.drew.setCell ⟨g, 3, none⟩ (.int .i64 (nx + 1))).heap[g]? = some (.cells #[lessK, v1, .map (some mb), .int .i64 (nx + 1), .int .i64 ck] 131 (0, 0))) := set_cell (show w5.drew.heap[g]? = _ from G5.out) 3 _
  refine start_ (n := 18) (S := fun w' => w'.cell? ⟨g, 3, none⟩ = some (.int .i64 nx) ∧ w'.cell? ⟨g, 4, none⟩ = some (.int .i64 ck)) (ds := [14, 17]) #[false, false, false, false, false, false, false, false, false, false, false, false, false, false, false, false, false, false] (by kernel_rfl) rfl rfl ⟨d1, d2⟩ (fun hHeld => ?_)
  refine pure_ (i := 0) (N := some 38) (v := ?_) (a' := ?_) #[true, false, false, false, false, false, false, false, false, false, false, false, false, false, false, false, false, false] rfl rfl (by kernel_rfl) (fun _ _ _ h => h) (Or.inl ⟨by rfl, ?_⟩) ?_ ?_
  rotate_left
  · intro w'
    go_simp
    with_reducible rfl
  rotate_left
  · simp only [Act.put, List.setIfInBounds_toArray, List.set_cons_zero, List.set_cons_succ, i64_w, i32_w]
    rfl
  refine pure_ (i := 1) (N := some 39) (v := ?_) (a' := ?_) #[true, true, false, false, false, false, false, false, false, false, false, false, false, false, false, false, false, false] rfl rfl (by kernel_rfl) (fun _ _ _ h => h) (Or.inl ⟨by rfl, ?_⟩) ?_ ?_
  rotate_left
  · intro w'
    go_simp
    with_reducible rfl
  rotate_left
  · simp only [Act.put, List.setIfInBounds_toArray, List.set_cons_zero, List.set_cons_succ, i64_w, i32_w]
    rfl
  refine pure_ (i := 2) (N := some 40) (v := ?_) (a' := ?_) #[true, true, true, false, false, false, false, false, false, false, false, false, false, false, false, false, false, false] rfl rfl (by kernel_rfl) (fun _ _ _ h => h) (Or.inl ⟨by rfl, ?_⟩) ?_ ?_
  rotate_left
  · intro w'
    go_simp
    with_reducible rfl
  rotate_left
  · simp only [Act.put, List.setIfInBounds_toArray, List.set_cons_zero, List.set_cons_succ, i64_w, i32_w]
    rfl
  refine pure_ (i := 3) (N := some 41) (v := ?_) (a' := ?_) #[true, true, true, true, false, false, false, false, false, false, false, false, false, false, false, false, false, false] rfl rfl (by kernel_rfl) (fun _ _ _ h => h) (Or.inl ⟨by rfl, ?_⟩) ?_ ?_
  rotate_left
  · intro w'
    go_simp
    with_reducible rfl
  rotate_left
  · simp only [Act.put, List.setIfInBounds_toArray, List.set_cons_zero, List.set_cons_succ, i64_w, i32_w]
    rfl
  refine pure_ (i := 4) (N := some 42) (v := ?_) (a' := ?_) #[true, true, true, true, true, false, false, false, false, false, false, false, false, false, false, false, false, false] rfl rfl (by kernel_rfl) (fun _ _ _ h => h) (Or.inl ⟨by rfl, ?_⟩) ?_ ?_
  rotate_left
  · intro w'
    go_simp
    with_reducible rfl
  rotate_left
  · simp only [Act.put, List.setIfInBounds_toArray, List.set_cons_zero, List.set_cons_succ, i64_w, i32_w]
    rfl
  refine pure_ (i := 7) (N := some 45) (v := ?_) (a' := ?_) #[true, true, true, true, true, false, false, true, false, false, false, false, false, false, false, false, false, false] rfl rfl (by kernel_rfl) (fun _ _ _ h => h) (Or.inl ⟨by rfl, ?_⟩) ?_ ?_
  rotate_left
  · intro w'
    go_simp
    with_reducible rfl
  rotate_left
  · simp only [Act.put, List.setIfInBounds_toArray, List.set_cons_zero, List.set_cons_succ, i64_w, i32_w]
    rfl
  refine pure_ (i := 8) (N := some 46) (v := ?_) (a' := ?_) #[true, true, true, true, true, false, false, true, true, false, false, false, false, false, false, false, false, false] rfl rfl (by kernel_rfl) (fun _ _ _ h => h) (Or.inl ⟨by rfl, ?_⟩) ?_ ?_
  rotate_left
  · intro w'
    go_simp
    with_reducible rfl
  rotate_left
  · simp only [Act.put, List.setIfInBounds_toArray, List.set_cons_zero, List.set_cons_succ, i64_w, i32_w]
    rfl
  refine pure_ (i := 9) (N := some 47) (v := ?_) (a' := ?_) #[true, true, true, true, true, false, false, true, true, true, false, false, false, false, false, false, false, false] rfl rfl (by kernel_rfl) (fun _ _ _ h => h) (Or.inl ⟨by rfl, ?_⟩) ?_ ?_
  rotate_left
  · intro w'
    go_simp
    with_reducible rfl
  rotate_left
  · simp only [Act.put, List.setIfInBounds_toArray, List.set_cons_zero, List.set_cons_succ, i64_w, i32_w]
    rfl
  refine take_ (i := 5) (N := some 43) (v := ?_) (a' := ?_) #[true, true, true, true, true, true, false, true, true, true, false, false, false, false, false, false, false, false] rfl rfl (by kernel_rfl) (fun _ _ _ h => h) (Or.inl ⟨by rfl, ?_⟩) hHeld ?_ ?_
  rotate_left
  · rintro w' ⟨s0, s1⟩
    go_simp
    with_reducible rfl
  rotate_left
  · simp only [Act.put, List.setIfInBounds_toArray, List.set_cons_zero, List.set_cons_succ, i64_w, i32_w]
    rfl
  refine pure_ (i := 6) (N := some 44) (v := ?_) (a' := ?_) #[true, true, true, true, true, true, true, true, true, true, false, false, false, false, false, false, false, false] rfl rfl (by kernel_rfl) (fun _ _ _ h => h) (Or.inl ⟨by rfl, ?_⟩) ?_ ?_
  rotate_left
  · intro w'
    go_simp
    with_reducible rfl
  rotate_left
  · simp only [Act.put, List.setIfInBounds_toArray, List.set_cons_zero, List.set_cons_succ, i64_w, i32_w]
    rfl
  refine take_ (i := 10) (N := some 48) (v := ?_) (a' := ?_) #[true, true, true, true, true, true, true, true, true, true, true, false, false, false, false, false, false, false] rfl rfl (by kernel_rfl) (fun _ _ _ h => h) (Or.inl ⟨by rfl, ?_⟩) hHeld ?_ ?_
  rotate_left
  · rintro w' ⟨s0, s1⟩
    go_simp
    with_reducible rfl
  rotate_left
  · simp only [Act.put, List.setIfInBounds_toArray, List.set_cons_zero, List.set_cons_succ, i64_w, i32_w]
    rfl
  refine pure_ (i := 11) (N := some 49) (v := ?_) (a' := ?_) #[true, true, true, true, true, true, true, true, true, true, true, true, false, false, false, false, false, false] rfl rfl (by kernel_rfl) (fun _ _ _ h => h) (Or.inl ⟨by rfl, ?_⟩) ?_ ?_
  rotate_left
  · intro w'
    go_simp
    with_reducible rfl
  rotate_left
  · simp only [Act.put, List.setIfInBounds_toArray, List.set_cons_zero, List.set_cons_succ, i64_w, i32_w]
    rfl
  refine pure_ (i := 12) (N := some 50) (v := ?_) (a' := ?_) #[true, true, true, true, true, true, true, true, true, true, true, true, true, false, false, false, false, false] rfl rfl (by kernel_rfl) (fun _ _ _ h => h) (Or.inl ⟨by rfl, ?_⟩) ?_ ?_
  rotate_left
  · intro w'
    go_simp
    with_reducible rfl
  rotate_left
  · simp only [Act.put, List.setIfInBounds_toArray, List.set_cons_zero, List.set_cons_succ, i64_w, i32_w]
    rfl
  refine pure_ (i := 13) (N := some 51) (v := ?_) (a' := ?_) #[true, true, true, true, true, true, true, true, true, true, true, true, true, true, false, false, false, false] rfl rfl (by kernel_rfl) (fun _ _ _ h => h) (Or.inl ⟨by rfl, ?_⟩) ?_ ?_
  rotate_left
  · intro w'
    go_simp
    with_reducible rfl
  rotate_left
  · simp only [Act.put, List.setIfInBounds_toArray, List.set_cons_zero, List.set_cons_succ, i64_w, i32_w]
    rfl
  refine last_ (i := 14) (N := none) #[true, true, true, true, true, true, true, true, true, true, true, true, true, true, true, false, false, false] rfl rfl (by kernel_rfl) (by decide) (fun K hK => ?_)
  refine skip_ (w1 := w5.drew.setCell ⟨g, 3, none⟩ (.int .i64 (nx + 1))) (by rfl) rfl (run_u (run_storeAt_one (w := w5.drew) (by kernel_rfl) rfl (o := .int .i64 nx) d1 (frozen_blk (W := w5.drew) G5.out 3))) ?_
  refine hK.out _ _ ?_
  clear hK K
  refine pure_ (i := 15) (N := some 52) (v := ?_) (a' := ?_) #[true, true, true, true, true, true, true, true, true, true, true, true, true, true, true, true, false, false] rfl rfl (by kernel_rfl) (fun _ _ _ h => h) (Or.inl ⟨by rfl, ?_⟩) ?_ ?_
  rotate_left
  · intro w'
    go_simp
    with_reducible rfl
  rotate_left
  · simp only [Act.put, List.setIfInBounds_toArray, List.set_cons_zero, List.set_cons_succ, i64_w, i32_w]
    rfl
  refine pure_ (i := 16) (N := some 53) (v := ?_) (a' := ?_) #[true, true, true, true, true, true, true, true, true, true, true, true, true, true, true, true, true, false] rfl rfl (by kernel_rfl) (fun _ _ _ h => h) (Or.inl ⟨by rfl, ?_⟩) ?_ ?_
  rotate_left
  · intro w'
    go_simp
    with_reducible rfl
  rotate_left
  · simp only [Act.put, List.setIfInBounds_toArray, List.set_cons_zero, List.set_cons_succ, i64_w, i32_w]
    rfl
  refine last_ (i := 17) (N := none) #[true, true, true, true, true, true, true, true, true, true, true, true, true, true, true, true, true, true] rfl rfl (by kernel_rfl) (by decide) (fun K hK => ?_)
  refine skip_ (w1 := (w5.drew.setCell ⟨g, 3, none⟩ (.int .i64 (nx + 1))).setCell ⟨g, 4, none⟩ (.int .i64 (ck + 1))) (by rfl) rfl (run_u (run_storeAt_one (by kernel_rfl) rfl (o := .int .i64 ck) (by simp [World.cell?, G6.out]) (frozen_blk G6.out 4))) ?_
  refine hK.out _ _ ?_
  clear hK K
  refine done_ (by kernel_rfl) ?_
  obtain ⟨W7, hW7⟩ : ∃ W, W = (w5.drew.setCell ⟨g, 3, none⟩ (.int .i64 (nx + 1))).setCell ⟨g, 4, none⟩ (.int .i64 (ck + 1)) := ⟨_, rfl⟩
  rw [← hW7]
  have G7 : Hid (W7.heap[g]? = some (.cells #[lessK, v1, .map (some mb), .int .i64 (nx + 1), .int .i64 (ck + 1)] 131 (0, 0))) := by
    show _ = _
    rw [hW7]
    exact set_cell G6.out 4 _
  have E67 : Hid (Eff (fun k => k = g) w5 W7) := by
    rw [hW7]
    exact ((Eff.refl _ w5).drew.trans (eff_setCell w5.drew g 3 (.int .i64 (nx + 1))) (fun _ h => .inl h)).trans (eff_setCell (w5.drew.setCell ⟨g, 3, none⟩ (.int .i64 (nx + 1))) g 4 (.int .i64 (ck + 1))) (fun _ h => .inl h)
  have E7 : Hid (Eff (own g hv mb) w W7) := E5.out.trans E67.out (fun k h => .inl (.inl h))
  have HQ7 : Hid (IsQ 131 135 lessK B W7 g v1 mb (es ++ [⟨x, nx, ck⟩]) (nx + 1) (ck + 1)) :=
    ⟨G7.out, HQ.out.gB, HQ.out.mB, R5.out.eff E67.out (fun k hk e => HGV.out (by rw [hk, e])), M5.out.eff E67.out (fun h => HGM.out h.symm), nodup_snoc HQ.out.nd HNX.out⟩
  have CU := Lib.hid (up_K HQ7.out es.length ⟨x, nx, ck⟩ (by simp) (heap_snoc HH.out) (by simp; omega))
  clear hHeld d0 d1 d2 hW7 hwx hwc
  go_wp2_with fail
  refine CU.out.mono ?_
  rintro r w8 ⟨rfl, es', p, hq8, hp8, hd8, hi8, hk8, he8⟩
  have H8 := Lib.hid (And.intro hq8 (And.intro hp8 (heap_of hd8 (hk8 (kids_snoc es ⟨x, nx, ck⟩)))))
  have HE8 := Lib.hid he8
  clear hq8 hp8 hd8 hi8 hk8 he8
  go_wp2_with fail
  go_ret
  refine ⟨rfl, v1, es', H8.out.1, H8.out.2.1, H8.out.2.2, E7.out.trans HE8.out (fun k h => ?_), HA4.out.imp id (fun ⟨b, h1, h2⟩ => ⟨b, h1, Nat.le_of_lt h2⟩)⟩
  rcases h with h | h
  · rcases HA4.out with h1 | ⟨b, h1, h2⟩
    · exact .inl (.inr (.inl (by rw [← h1]; exact h)))
    · rw [h1] at h
      cases h
      exact .inr (Nat.le_of_lt h2)
  · exact .inl (.inr (.inr h))
end Go.Proofs.Ytepfbhigeghjjaa.Q
