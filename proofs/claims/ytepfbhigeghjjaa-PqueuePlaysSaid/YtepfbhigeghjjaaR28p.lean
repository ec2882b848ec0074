/- The reference queue: Push. -/
import Derived.Test.YtepfbhigeghjjaaR28a
namespace Go.Proofs.Ytepfbhigeghjjaa.Q
open Go.RowKit Go.Proofs.YtepfbhigeghjjaaW.PrintLast
set_option linter.unusedVariables false
set_option linter.unusedSimpArgs false

/-- What Push does. -/
def PushR (B : Nat) (w : World) (m : Nat) (hv : Value) (es : List (En E28)) (nx ck : Int) (x : E28) (r : Ending) (w' : World) : Prop :=
  r = .returned (.int .i64 nx) ∧ ∃ hv', IsR B w' m hv' (es ++ [⟨x, nx, ck⟩]) (nx + 1) (ck + 1) ∧ Eff (fun k => k = m ∨ some k = hv.ownBlock) w w'
set_option maxHeartbeats 2000000 in
set_option maxRecDepth 100000 in
theorem push_R {B : Nat} {w : World} {m : Nat} {hv : Value} {es : List (En E28)} {nx ck : Int} (hq : IsR B w m hv es nx ck) (hn0 : 0 ≤ nx) (hn1 : nx ≤ 1000000000) (hc0 : 0 ≤ ck) (hc1 : ck ≤ 1000000000) (hlen : es.length < 1000000000) (x : E28) :
    Calls Try.prog 32 #[.pointer (some ⟨m, 0, none⟩), .agg #[.int .i64 x.key, .int .i64 x.id]] w (PushR B w m hv es nx ck x) := by
  have hml := (Array.getElem?_eq_some_iff.1 hq.blk).1
  have hlt : ∀ k, hv.ownBlock = some k → k < w.heap.size := fun k h => (Row.lt hq.row k h).2
  have hmne : hv.ownBlock ≠ some m := Row.ne hq.row hq.blk (by decide)
  obtain ⟨A, cap, hvA⟩ := Row.slice hq.row
  have HV := Lib.hid hvA
  obtain ⟨bx, hbx⟩ : ∃ b, b = w.heap.size := ⟨_, rfl⟩
  obtain ⟨W1, hW1⟩ : ∃ W, W = w.alloc (.cells #[.int .i64 x.key, .int .i64 x.id] 27) := ⟨_, rfl⟩
  have E1 : Hid (Eff (fun _ => False) w W1) := by rw [hW1]; exact eff_alloc w _
  have Z1 : Hid (W1.heap.size = w.heap.size + 1) := by show _ = _; rw [hW1]; simp
  have GB : Hid (W1.heap[m]? = some (.cells #[hv, .int .i64 nx, .int .i64 ck] 41 (0, 0))) := E1.out.heap hq.blk (fun h => h)
  have X0 : W1.heap[bx]? = some (.cells #[.int .i64 x.key, .int .i64 x.id] 27 (0, 0)) := by rw [hbx, hW1]; exact heap_alloc_new w _
  have X1 : W1.rangeAt bx 0 [.int .i64 x.key, .int .i64 x.id] := box_range (L := [.int .i64 x.key, .int .i64 x.id]) X0 0 _ (fun j v h => by rw [Nat.zero_add]; exact h)
  have c1 : W1.cell? ⟨m, 0, none⟩ = some (.slice A es.length cap) := by rw [← hvA]; simp [World.cell?, GB.out]
  have c2 : W1.cell? ⟨m, 1, none⟩ = some (.int .i64 nx) := by simp [World.cell?, GB.out]
  have c3 : W1.cell? ⟨m, 2, none⟩ = some (.int .i64 ck) := by simp [World.cell?, GB.out]
  have mne : Hid (¬ some m = (Value.slice A es.length cap).ownBlock) := fun e => hmne (by rw [hvA]; exact e.symm)
  have hBl : B ≤ w.heap.size := Nat.le_trans hq.mB (Nat.le_of_lt hml)
  have AP : Hid (∀ W : World, Eff (fun _ => False) w W → ∃ v1 w3, (Builtin.append_ #[39, 39] 39 #[.slice A es.length cap, .slice (some ⟨W.heap.size, 0, none⟩) 1 1]).run Try.prog (W.alloc (.cells (enc (⟨x, nx, ck⟩ : En E28)).toArray 98)) = .ok v1 w3 ∧ w3.ownsRow B 98 4 v1 (es.length + 1) (flat es ++ enc ⟨x, nx, ck⟩) ∧
      (W.alloc (.cells (enc (⟨x, nx, ck⟩ : En E28)).toArray 98)).grownBy w3 (Value.slice A es.length cap).ownBlock ∧ (v1 = .slice none 0 0 ↔ Value.slice A es.length cap = .slice none 0 0 ∧ 1 = 0) ∧ (v1.ownBlock = (Value.slice A es.length cap).ownBlock ∨ v1.ownBlock = some (W.alloc (.cells (enc (⟨x, nx, ck⟩ : En E28)).toArray 98)).heap.size)) := by
    intro W hW
    obtain ⟨i0, hi0, hz0, hz1, hz2⟩ := info_parts (show (Try.prog.info? 98).map (fun i => (i.zero, i.size, i.bytes)) = some (some (.agg #[.int .i64 0, .int .i64 0, .int .i64 0, .int .i64 0]), 4, 32) from by kernel_rfl)
    have hrow := (Row.eff hq.row hW (fun _ _ h => h)).eff (eff_alloc W (.cells (enc (⟨x, nx, ck⟩ : En E28)).toArray 98)) (fun _ _ h => h)
    rw [hvA] at hrow
    exact run_append_own_at (P := Try.prog) (W.alloc (.cells (enc (⟨x, nx, ck⟩ : En E28)).toArray 98)) B 39 39 98 i0 (.agg #[.int .i64 0, .int .i64 0, .int .i64 0, .int .i64 0]) 4 32 Try.underlying39 hi0 hz0 hz1 hz2 rfl (by decide) _ es.length (flat es) hrow
      ⟨W.heap.size, 0, none⟩ 1 1 (enc ⟨x, nx, ck⟩) rfl (fun j u hu => by rw [Addr.add_mid]; exact box_range (heap_alloc_new W _) 0 _ (fun j v h => by rw [Nat.zero_add]; exact h) j u hu) (fun u hu => Array.all_eq_true_iff_forall_mem.1 (enc_all (⟨x, nx, ck⟩ : En E28)) u (by simpa using hu)) (by simp only [maxLen]; omega) (by omega) (by have := hW.size; simp; omega)
  have HQ := Lib.hid hq
  have HBL := Lib.hid hBl
  have HLT := Lib.hid hlt
  have HGN := Lib.hid hmne
  have HX := Lib.hid hbx
  have HML := Lib.hid hml
  have CC := Lib.hid (And.intro c1 (And.intro c2 c3))
  clear hq hvA hBl hlt hmne c1 c2 c3 X0 hbx hml
  go_enter Try.func32, Try.ntmps32
  go_wp2_with fail
  rw [← hW1, ← HX.out]
  clear hW1
  obtain ⟨c1, c2, c3⟩ := CC.out
  refine start_ (n := 17) (S := fun w' => w'.cell? ⟨m, 0, none⟩ = some (.slice A es.length cap) ∧ w'.rangeAt bx 0 [.int .i64 x.key, .int .i64 x.id] ∧ w'.cell? ⟨m, 1, none⟩ = some (.int .i64 nx) ∧ w'.cell? ⟨m, 2, none⟩ = some (.int .i64 ck)) (ds := [15]) #[false, false, false, false, false, false, false, false, false, false, false, false, false, false, false, false, false] (by kernel_rfl) rfl rfl ⟨c1, X1, c2, c3⟩ (fun hHeld => ?_)
  refine pure_ (i := 0) (N := some 6) (v := ?_) (a' := ?_) #[true, false, false, false, false, false, false, false, false, false, false, false, false, false, false, false, false] rfl rfl (by kernel_rfl) (fun _ _ _ h => h) (Or.inl ⟨by rfl, ?_⟩) ?_ ?_
  rotate_left
  · intro w'
    go_simp
    with_reducible rfl
  rotate_left
  · simp only [Act.put, List.setIfInBounds_toArray, List.set_cons_zero, List.set_cons_succ, i64_w, i32_w]
    rfl
  refine pure_ (i := 1) (N := some 7) (v := ?_) (a' := ?_) #[true, true, false, false, false, false, false, false, false, false, false, false, false, false, false, false, false] rfl rfl (by kernel_rfl) (fun _ _ _ h => h) (Or.inl ⟨by rfl, ?_⟩) ?_ ?_
  rotate_left
  · intro w'
    go_simp
    with_reducible rfl
  rotate_left
  · simp only [Act.put, List.setIfInBounds_toArray, List.set_cons_zero, List.set_cons_succ, i64_w, i32_w]
    rfl
  refine pure_ (i := 2) (N := some 8) (v := ?_) (a' := ?_) #[true, true, true, false, false, false, false, false, false, false, false, false, false, false, false, false, false] rfl rfl (by kernel_rfl) (fun _ _ _ h => h) (Or.inl ⟨by rfl, ?_⟩) ?_ ?_
  rotate_left
  · intro w'
    go_simp
    with_reducible rfl
  rotate_left
  · simp only [Act.put, List.setIfInBounds_toArray, List.set_cons_zero, List.set_cons_succ, i64_w, i32_w]
    rfl
  refine pure_ (i := 5) (N := some 11) (v := ?_) (a' := ?_) #[true, true, true, false, false, true, false, false, false, false, false, false, false, false, false, false, false] rfl rfl (by kernel_rfl) (fun _ _ _ h => h) (Or.inl ⟨by rfl, ?_⟩) ?_ ?_
  rotate_left
  · intro w'
    go_simp
    with_reducible rfl
  rotate_left
  · simp only [Act.put, List.setIfInBounds_toArray, List.set_cons_zero, List.set_cons_succ, i64_w, i32_w]
    rfl
  refine pure_ (i := 6) (N := some 12) (v := ?_) (a' := ?_) #[true, true, true, false, false, true, true, false, false, false, false, false, false, false, false, false, false] rfl rfl (by kernel_rfl) (fun _ _ _ h => h) (Or.inl ⟨by rfl, ?_⟩) ?_ ?_
  rotate_left
  · intro w'
    go_simp
    with_reducible rfl
  rotate_left
  · simp only [Act.put, List.setIfInBounds_toArray, List.set_cons_zero, List.set_cons_succ, i64_w, i32_w]
    rfl
  refine pure_ (i := 7) (N := some 13) (v := ?_) (a' := ?_) #[true, true, true, false, false, true, true, true, false, false, false, false, false, false, false, false, false] rfl rfl (by kernel_rfl) (fun _ _ _ h => h) (Or.inl ⟨by rfl, ?_⟩) ?_ ?_
  rotate_left
  · intro w'
    go_simp
    with_reducible rfl
  rotate_left
  · simp only [Act.put, List.setIfInBounds_toArray, List.set_cons_zero, List.set_cons_succ, i64_w, i32_w]
    rfl
  refine pure_ (i := 9) (N := some 15) (v := ?_) (a' := ?_) #[true, true, true, false, false, true, true, true, false, true, false, false, false, false, false, false, false] rfl rfl (by kernel_rfl) (fun _ _ _ h => h) (Or.inl ⟨by rfl, ?_⟩) ?_ ?_
  rotate_left
  · intro w'
    go_simp
    with_reducible rfl
  rotate_left
  · simp only [Act.put, List.setIfInBounds_toArray, List.set_cons_zero, List.set_cons_succ, i64_w, i32_w]
    rfl
  refine pure_ (i := 10) (N := some 16) (v := ?_) (a' := ?_) #[true, true, true, false, false, true, true, true, false, true, true, false, false, false, false, false, false] rfl rfl (by kernel_rfl) (fun _ _ _ h => h) (Or.inl ⟨by rfl, ?_⟩) ?_ ?_
  rotate_left
  · intro w'
    go_simp
    with_reducible rfl
  rotate_left
  · simp only [Act.put, List.setIfInBounds_toArray, List.set_cons_zero, List.set_cons_succ, i64_w, i32_w]
    rfl
  refine pure_ (i := 11) (N := some 17) (v := ?_) (a' := ?_) #[true, true, true, false, false, true, true, true, false, true, true, true, false, false, false, false, false] rfl rfl (by kernel_rfl) (fun _ _ _ h => h) (Or.inl ⟨by rfl, ?_⟩) ?_ ?_
  rotate_left
  · intro w'
    go_simp
    with_reducible rfl
  rotate_left
  · simp only [Act.put, List.setIfInBounds_toArray, List.set_cons_zero, List.set_cons_succ, i64_w, i32_w]
    rfl
  refine take_ (i := 3) (N := some 9) (v := ?_) (a' := ?_) #[true, true, true, true, false, true, true, true, false, true, true, true, false, false, false, false, false] rfl rfl (by kernel_rfl) (fun _ _ _ h => h) (Or.inl ⟨by rfl, ?_⟩) hHeld ?_ ?_
  rotate_left
  · rintro w' ⟨s0, s1, s2, s3⟩
    go_simp
    with_reducible rfl
  rotate_left
  · simp only [Act.put, List.setIfInBounds_toArray, List.set_cons_zero, List.set_cons_succ, i64_w, i32_w]
    rfl
  refine take_ (i := 4) (N := some 10) (a' := ?_) #[true, true, true, true, true, true, true, true, false, true, true, true, false, false, false, false, false] rfl rfl (by kernel_rfl) (fun _ _ _ h => h) (yieldsIf_load_mid (by rfl) 27 _ rfl bx 0 (by rfl) [.int .i64 x.key, .int .i64 x.id] _ (fun w' h => h.2.1) Try.underlying27 rfl (by kernel_rfl)) hHeld ?_ ?_
  rotate_left
  · simp only [Act.put, List.setIfInBounds_toArray, List.set_cons_zero, List.set_cons_succ, i64_w, i32_w]
    rfl
  refine take_ (i := 8) (N := some 14) (v := ?_) (a' := ?_) #[true, true, true, true, true, true, true, true, true, true, true, true, false, false, false, false, false] rfl rfl (by kernel_rfl) (fun _ _ _ h => h) (Or.inl ⟨by rfl, ?_⟩) hHeld ?_ ?_
  rotate_left
  · rintro w' ⟨s0, s1, s2, s3⟩
    go_simp
    with_reducible rfl
  rotate_left
  · simp only [Act.put, List.setIfInBounds_toArray, List.set_cons_zero, List.set_cons_succ, i64_w, i32_w]
    rfl
  refine take_ (i := 12) (N := some 18) (v := ?_) (a' := ?_) #[true, true, true, true, true, true, true, true, true, true, true, true, true, false, false, false, false] rfl rfl (by kernel_rfl) (fun _ _ _ h => h) (Or.inl ⟨by rfl, ?_⟩) hHeld ?_ ?_
  rotate_left
  · rintro w' ⟨s0, s1, s2, s3⟩
    go_simp
    with_reducible rfl
  rotate_left
  · simp only [Act.put, List.setIfInBounds_toArray, List.set_cons_zero, List.set_cons_succ, i64_w, i32_w]
    rfl
  refine pure_ (i := 13) (N := some 19) (v := ?_) (a' := ?_) #[true, true, true, true, true, true, true, true, true, true, true, true, true, true, false, false, false] rfl rfl (by kernel_rfl) (fun _ _ _ h => h) (Or.inl ⟨by rfl, ?_⟩) ?_ ?_
  rotate_left
  · intro w'
    go_simp
    with_reducible rfl
  rotate_left
  · simp only [Act.put, List.setIfInBounds_toArray, List.set_cons_zero, List.set_cons_succ, i64_w, i32_w]
    rfl
  refine one_ (i := 14) (N := some 20) #[true, true, true, true, true, true, true, true, true, true, true, true, true, true, true, false, false] rfl rfl (by kernel_rfl) (by decide) (fun K hK => ?_)
  refine value_ (w1 := ?_) (v := ?_) (by rfl) rfl ?_ ?_
  rotate_left 2
  · go_simp
    constructor
    · rfl
    · rfl
  refine hK.out _ _ ⟨((eff_alloc _ _).cell hHeld.1 (fun h => h)), (rangeAt_eff hHeld.2.1 (eff_alloc _ _) (fun h => h)), ((eff_alloc _ _).cell hHeld.2.2.1 (fun h => h)), ((eff_alloc _ _).cell hHeld.2.2.2 (fun h => h))⟩ (fun hHeld => ?_)
  clear hK K
  refine norm_ (a' := ?_) ?_ ?_
  rotate_left
  · show Act.put _ (some 20) _ = _
    simp only [Act.put, List.setIfInBounds_toArray, List.set_cons_zero, List.set_cons_succ, i64_w, i32_w]
    rfl
  refine last_ (i := 15) (N := some 21) #[true, true, true, true, true, true, true, true, true, true, true, true, true, true, true, true, false] rfl rfl (by kernel_rfl) (by decide) (fun K hK => ?_)
  obtain ⟨v1, w3, hr3, ho3, hg3, hn3, ha3⟩ := AP.out W1.drew (E1.out.drew)
  refine value_ (w1 := w3) (v := v1) (by rfl) rfl (exec_append rfl (by rfl) (by rfl) hr3) ?_
  have HE3 := Lib.hid (Eff.of_grown hg3)
  have HO3 := Lib.hid ho3
  have HA3 := Lib.hid ha3
  obtain ⟨A3, c3', hv3⟩ := own_slice ho3
  clear hr3 ho3 hg3 hn3 ha3
  refine hK.out _ _ ?_
  clear hK K
  refine norm_ (a' := ?_) ?_ ?_
  rotate_left
  · show Act.put _ (some 21) _ = _
    simp only [Act.put, List.setIfInBounds_toArray, List.set_cons_zero, List.set_cons_succ, i64_w, i32_w]
    rfl
  refine pure_ (i := 16) (N := some 5) (v := ?_) (a' := ?_) #[true, true, true, true, true, true, true, true, true, true, true, true, true, true, true, true, true] rfl rfl (by kernel_rfl) (fun _ _ _ h => h) (Or.inl ⟨by rfl, ?_⟩) ?_ ?_
  rotate_left
  · intro w'
    go_simp
    with_reducible rfl
  rotate_left
  · simp only [Act.put, List.setIfInBounds_toArray, List.set_cons_zero, List.set_cons_succ, i64_w, i32_w]
    rfl
  refine done_ (by kernel_rfl) ?_
  have G3 : Hid (w3.heap[m]? = some (.cells #[hv, .int .i64 nx, .int .i64 ck] 41 (0, 0))) := HE3.out.heap ((eff_alloc W1.drew _).heap (show W1.drew.heap[m]? = _ from GB.out) (fun h => h)) mne.out
  have R3 : Hid (Row 98 B w3 v1 (es ++ [⟨x, nx, ck⟩])) := by
    have := HO3.out
    rw [← flat_snoc] at this
    show World.ownsRow _ _ _ _ _ _ _
    rw [List.length_append]
    exact this
  have E3 : Hid (Eff (fun k => k = m ∨ some k = hv.ownBlock) w w3) := by
    have h1 : Eff (fun k => k = m ∨ some k = hv.ownBlock) w (W1.drew.alloc (.cells (enc (⟨x, nx, ck⟩ : En E28)).toArray 98)) := (E1.out.drew.alloc _).mono (fun _ h => h.elim)
    exact h1.trans HE3.out (fun k h => .inl (.inr (by rw [HV.out]; exact h)))
  have hmv : v1.ownBlock ≠ some m := by
    rcases HA3.out with h | h
    · rw [h]; exact fun e => mne.out e.symm
    · rw [h]
      intro e
      have h1 := HML.out
      have h2 := E1.out.size
      cases e
      simp at h1
      omega
  have HMV := Lib.hid hmv
  subst hv3
  have d0 : w3.cell? ⟨m, 0, none⟩ = some (.slice A es.length cap) := by rw [← HV.out]; simp [World.cell?, G3.out]
  have d1 : w3.cell? ⟨m, 1, none⟩ = some (.int .i64 nx) := by simp [World.cell?, G3.out]
  have d2 : w3.cell? ⟨m, 2, none⟩ = some (.int .i64 ck) := by simp [World.cell?, G3.out]
  have f0 : w3.frozen? ⟨m, 0, none⟩ = false := frozen_blk G3.out 0
  have f1 : w3.frozen? ⟨m, 1, none⟩ = false := frozen_blk G3.out 1
  have f2 : w3.frozen? ⟨m, 2, none⟩ = false := frozen_blk G3.out 2
  have hwx : IntKind.i64.wrap (nx + 1) = nx + 1 := IntWalk.i64_in _ (by omega)
  have hwc : IntKind.i64.wrap (ck + 1) = ck + 1 := IntWalk.i64_in _ (by omega)
  have hwb : IntKind.i64.wrap (nx + 1 - 1) = nx := by rw [IntWalk.i64_in _ (by omega)]; omega
  clear hHeld c1 c2 c3 X1 hmv
  go_wp2_with fail
  go_ret
  refine ⟨rfl, _, ⟨set_cell (set_cell (set_cell G3.out 0 _) 2 (.int .i64 (ck + 1))) 1 (.int .i64 (nx + 1)), HQ.out.mB, ?_⟩, ?_⟩
  · refine R3.out.eff (S := fun k => k = m) ?_ (fun k hk e => HMV.out (by rw [hk, e]))
    exact (((Eff.refl (fun k => k = m) w3).setCell (p := ⟨m, 0, none⟩) (.inl rfl) _).setCell (p := ⟨m, 2, none⟩) (.inl rfl) _).setCell (p := ⟨m, 1, none⟩) (.inl rfl) _
  · exact ((E3.out.setCell (p := ⟨m, 0, none⟩) (.inl (.inl rfl)) _).setCell (p := ⟨m, 2, none⟩) (.inl (.inl rfl)) _).setCell (p := ⟨m, 1, none⟩) (.inl (.inl rfl)) _
end Go.Proofs.Ytepfbhigeghjjaa.Q
