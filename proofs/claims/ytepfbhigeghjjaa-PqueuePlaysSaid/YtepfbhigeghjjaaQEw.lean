/- The queue at E28: Update. -/
import Derived.Test.YtepfbhigeghjjaaQEu
import Derived.Test.YtepfbhigeghjjaaQEd
namespace Go.Proofs.Ytepfbhigeghjjaa.Q
open Go.RowKit Go.Proofs.YtepfbhigeghjjaaW.PrintLast
set_option linter.unusedVariables false
set_option linter.unusedSimpArgs false

/-! ### Update -/
set_option maxHeartbeats 2000000 in
theorem updNone_E {B : Nat} {w : World} {g mb : Nat} {hv : Value} {es : List (En E28)} {nx ck : Int} (hq : IsQ 90 92 lessE B w g hv mb es nx ck) (h : Int) (hn : hidx es h = none) (x : E28) :
    Calls Try.prog 30 #[.pointer (some ⟨g, 0, none⟩), .int .i64 h, .agg #[.int .i64 x.key, .int .i64 x.id]] w fun r w' => r = .returned (.bool false) ∧ Below w.heap.size w w' := by
  obtain ⟨l, clk, hl, hf⟩ := hq.map
  have E := eff_alloc w (.cells #[.int .i64 x.key, .int .i64 x.id] 27)
  have hr := run_lookupL (P := Try.prog) Try.underlying87 Try.underlying3 zero3 (hl.eff E (fun h => h)) h true
  rw [← hf h, hn] at hr
  have HR := Lib.hid hr
  have c2 : (w.alloc (.cells #[.int .i64 x.key, .int .i64 x.id] 27)).cell? ⟨g, 2, none⟩ = some (.map (some mb)) := E.cell (by simp [World.cell?, hq.blk]) (fun h => h)
  clear hq hl hf E hr hn
  go_enter Try.func30, Try.ntmps30
  go_wp2_with (first | (at_lookup; refine wpL_v (some 15) rfl rfl (run_v HR.out) ?_))
  go_ret
  exact ⟨rfl, (Below.refl _ _).alloc (Nat.le_refl _) _⟩
set_option maxHeartbeats 2000000 in
set_option maxRecDepth 100000 in
theorem upd_E {B : Nat} {w : World} {g mb : Nat} {hv : Value} {es : List (En E28)} {nx ck : Int} (hq : IsQ 90 92 lessE B w g hv mb es nx ck) (hh : Heap es) (i : Nat) (e : En E28) (he : es[i]? = some e) (h : Int) (heh : e.h = h) (hc0 : 0 ≤ ck) (hc1 : ck ≤ 1000000000) (hlen : es.length ≤ 1000000000) (x : E28) :
    Calls Try.prog 30 #[.pointer (some ⟨g, 0, none⟩), .int .i64 h, .agg #[.int .i64 x.key, .int .i64 x.id]] w (UpdPost 90 92 lessE B w g hv mb es nx ck i h x) := by
  have hil : i < es.length := (List.getElem?_eq_some_iff.1 he).1
  have hfi : hidx es h = some (i : Int) := (hidx_some hq.nd).2 ⟨i, e, he, heh, rfl⟩
  obtain ⟨hb, cap, cur, rfl, hB, hh2, hcap, hmx, hs, hl⟩ := hq.row.form (by omega)
  have bl : Hid (hb < w.heap.size) := (Array.getElem?_eq_some_iff.1 hh2).1
  have gl : Hid (g < w.heap.size) := (Array.getElem?_eq_some_iff.1 hq.blk).1
  clear hh2 hs hl cur
  obtain ⟨l, clk, hml, hf⟩ := hq.map
  obtain ⟨W1, hW1⟩ : ∃ W, W = w.alloc (.cells #[.int .i64 x.key, .int .i64 x.id] 27) := ⟨_, rfl⟩
  obtain ⟨bx, hbx⟩ : ∃ b, b = w.heap.size := ⟨_, rfl⟩
  have E1 : Hid (Eff (fun _ => False) w W1) := by rw [hW1]; exact eff_alloc w _
  have hr := run_lookupL (P := Try.prog) Try.underlying87 Try.underlying3 zero3 (hml.eff E1.out (fun h => h)) h true
  rw [← hf h, hfi, hW1] at hr
  have HR := Lib.hid hr
  have Q1 : Hid (IsQ 90 92 lessE B W1 g (.slice (some ⟨hb, 0, none⟩) es.length cap) mb es nx ck) := hq.eff E1.out (fun _ _ h => h)
  have c2 : (w.alloc (.cells #[.int .i64 x.key, .int .i64 x.id] 27)).cell? ⟨g, 2, none⟩ = some (.map (some mb)) := by rw [← hW1]; simp [World.cell?, Q1.out.blk]
  have X0 : W1.heap[bx]? = some (.cells #[.int .i64 x.key, .int .i64 x.id] 27 (0, 0)) := by rw [hbx, hW1]; exact heap_alloc_new w _
  have X1 : W1.rangeAt bx 0 [.int .i64 x.key, .int .i64 x.id] := box_range (L := [.int .i64 x.key, .int .i64 x.id]) X0 0 _ (fun j v h => by rw [Nat.zero_add]; exact h)
  have c1 : W1.cell? ⟨g, 1, none⟩ = some (.slice (some ⟨hb, 0, none⟩) es.length cap) := blk_cell1 Q1.out.blk
  have c4 : W1.cell? ⟨g, 4, none⟩ = some (.int .i64 ck) := by simp [World.cell?, Q1.out.blk]
  have R1 : Hid (Row 92 B W1.drew (.slice (some ⟨hb, 0, none⟩) es.length cap) es) := Q1.out.row
  have TH : Hid (W1.drew.there hb (i * 4) 4) := R1.out.there i hil
  have CT : Hid ((W1.drew.setCells hb (i * 4) (Cells.cs x)).cell? ⟨hb, i * 4 + 3, none⟩ = some (.int .i64 e.t)) := by
    show _ = _
    rw [World.cell?_setCells_out hb (Cells.cs x) (i * 4) W1.drew ⟨hb, i * 4 + 3, none⟩ (fun _ _ => .inr (by show i * 4 + 2 ≤ i * 4 + 3; omega))]
    exact R1.out.range i e he 3 _ rfl
  have FT : Hid ((W1.drew.setCells hb (i * 4) (Cells.cs x)).frozen? ⟨hb, i * 4 + 3, none⟩ = false) := by
    show _ = _
    rw [World.frozen?_setCells]
    exact (TH.out 3 (by omega)).2
  obtain ⟨W4, hW4⟩ : ∃ W, W = (W1.drew.setCells hb (i * 4) (Cells.cs x)).setCell ⟨hb, i * 4 + 3, none⟩ (.int .i64 ck) := ⟨_, rfl⟩
  have R4 : Hid (Row 92 B W4 (.slice (some ⟨hb, 0, none⟩) es.length cap) (es.set i ⟨x, h, ck⟩)) := by
    have := R1.out.storeXT i e he x ck
    rw [hW4, ← heh]
    exact this
  have E4 : Hid (Eff (fun k => k = hb) W1 W4) := by
    rw [hW4]
    exact ((Eff.refl _ W1).drew.trans (eff_setCells hb (Cells.cs x) (i * 4) W1.drew).1 (fun _ h => .inl h)).trans (eff_setCell _ hb _ _) (fun _ h => .inl h)
  have ngb : ¬ g = hb := fun h => Row.ne hq.row hq.blk (by decide) (by rw [h]; rfl)
  have nmb : ¬ mb = hb := fun h => Row.neM hq.row hq.map (by rw [h]; rfl)
  have nmg : ¬ mb = g := fun h => by
    have := hq.blk
    rw [← h, hml.1] at this
    cases this
  have G4 : Hid (W4.heap[g]? = some (.cells #[lessE, .slice (some ⟨hb, 0, none⟩) es.length cap, .map (some mb), .int .i64 nx, .int .i64 ck] 90 (0, 0))) := E4.out.heap Q1.out.blk ngb
  obtain ⟨W5, hW5⟩ : ∃ W, W = W4.setCell ⟨g, 4, none⟩ (.int .i64 (ck + 1)) := ⟨_, rfl⟩
  have G5 : Hid (W5.heap[g]? = some (.cells #[lessE, .slice (some ⟨hb, 0, none⟩) es.length cap, .map (some mb), .int .i64 nx, .int .i64 (ck + 1)] 90 (0, 0))) := by
    show _ = _
    rw [hW5]
    exact set_cell G4.out 4 _
  have E5 : Hid (Eff (fun k => k = g) W4 W5) := by rw [hW5]; exact eff_setCell W4 g 4 _
  have E15 : Hid (Eff (own g (.slice (some ⟨hb, 0, none⟩) es.length cap) mb) w W5) :=
    ((E1.out.mono (fun _ h => h.elim)).trans E4.out (fun k h => .inl (.inr (.inl (by rw [h]; rfl))))).trans E5.out (fun k h => .inl (.inl h))
  have Q5 : Hid (IsQ 90 92 lessE B W5 g (.slice (some ⟨hb, 0, none⟩) es.length cap) mb (es.set i ⟨x, h, ck⟩) nx (ck + 1)) := by
    have hb2 : ∀ k, (Value.slice (some ⟨hb, 0, none⟩) es.length cap).ownBlock = some k → hb = k := fun k hk => by simpa [Value.ownBlock] using hk
    refine ⟨G5.out, hq.gB, hq.mB, R4.out.eff E5.out (fun k hk e => ngb (by rw [hb2 k hk, e])), ?_, ?_⟩
    · rw [hidx_set he heh.symm]
      exact (Q1.out.map.eff E4.out nmb).eff E5.out nmg
    · rw [map_set_h he heh.symm]
      exact hq.nd
  have CU := Lib.hid (up_E Q5.out i ⟨x, h, ck⟩ (by rw [List.getElem?_set_self hil]) (heap_set_hole hh i hil _) (by rw [List.length_set]; exact hlen))
  have hwc : (ck : Int) + 1 ≤ 9223372036854775807 := by omega
  have d4 : W4.cell? ⟨g, 4, none⟩ = some (.int .i64 ck) := by simp [World.cell?, G4.out]
  have fg : W4.frozen? ⟨g, 4, none⟩ = false := frozen_blk G4.out 4
  have hli : (i : Int) < (es.length : Int) := by omega
  have HW := Lib.hid (And.intro hW1 (And.intro hW4 (And.intro hW5 hbx)))
  have CC := Lib.hid (And.intro c1 (And.intro c4 (And.intro X1 (And.intro d4 fg))))
  clear hq hh he hfi hml hf hr X0 hbx hW1 hW4 hW5 c1 c4 X1 d4 fg ngb nmb nmg hcap
  go_enter Try.func30, Try.ntmps30
  go_wp2_with (first | (at_lookup; refine wpL_v (some 15) rfl rfl (run_v HR.out) ?_))
  rw [← HW.out.1, ← HW.out.2.2.2]
  obtain ⟨c1, c4, X1, d4, fg⟩ := CC.out
  clear c2
  refine start_ (n := 21) (S := fun w' => w'.cell? ⟨g, 1, none⟩ = some (.slice (some ⟨hb, 0, none⟩) es.length cap) ∧ w'.rangeAt bx 0 [.int .i64 x.key, .int .i64 x.id] ∧ w'.cell? ⟨g, 4, none⟩ = some (.int .i64 ck)) (ds := [17, 20]) #[false, false, false, false, false, false, false, false, false, false, false, false, false, false, false, false, false, false, false, false, false] (by kernel_rfl) rfl rfl ⟨c1, X1, c4⟩ (fun hHeld => ?_)
  refine pure_ (i := 0) (N := some 20) (v := ?_) (a' := ?_) #[true, false, false, false, false, false, false, false, false, false, false, false, false, false, false, false, false, false, false, false, false] rfl rfl (by kernel_rfl) (fun _ _ _ h => h) (Or.inl ⟨by rfl, ?_⟩) ?_ ?_
  rotate_left
  · intro w'
    go_simp
    with_reducible rfl
  rotate_left
  · simp only [Act.put, List.setIfInBounds_toArray, List.set_cons_zero, List.set_cons_succ, i64_w, i32_w]
    rfl
  refine pure_ (i := 1) (N := some 21) (v := ?_) (a' := ?_) #[true, true, false, false, false, false, false, false, false, false, false, false, false, false, false, false, false, false, false, false, false] rfl rfl (by kernel_rfl) (fun _ _ _ h => h) (Or.inl ⟨by rfl, ?_⟩) ?_ ?_
  rotate_left
  · intro w'
    go_simp
    with_reducible rfl
  rotate_left
  · simp only [Act.put, List.setIfInBounds_toArray, List.set_cons_zero, List.set_cons_succ, i64_w, i32_w]
    rfl
  refine pure_ (i := 2) (N := some 22) (v := ?_) (a' := ?_) #[true, true, true, false, false, false, false, false, false, false, false, false, false, false, false, false, false, false, false, false, false] rfl rfl (by kernel_rfl) (fun _ _ _ h => h) (Or.inl ⟨by rfl, ?_⟩) ?_ ?_
  rotate_left
  · intro w'
    go_simp
    with_reducible rfl
  rotate_left
  · simp only [Act.put, List.setIfInBounds_toArray, List.set_cons_zero, List.set_cons_succ, i64_w, i32_w]
    rfl
  refine pure_ (i := 4) (N := some 24) (v := ?_) (a' := ?_) #[true, true, true, false, true, false, false, false, false, false, false, false, false, false, false, false, false, false, false, false, false] rfl rfl (by kernel_rfl) (fun _ _ _ h => h) (Or.inl ⟨by rfl, ?_⟩) ?_ ?_
  rotate_left
  · intro w'
    go_simp
    with_reducible rfl
  rotate_left
  · simp only [Act.put, List.setIfInBounds_toArray, List.set_cons_zero, List.set_cons_succ, i64_w, i32_w]
    rfl
  refine pure_ (i := 5) (N := some 25) (v := ?_) (a' := ?_) #[true, true, true, false, true, true, false, false, false, false, false, false, false, false, false, false, false, false, false, false, false] rfl rfl (by kernel_rfl) (fun _ _ _ h => h) (Or.inl ⟨by rfl, ?_⟩) ?_ ?_
  rotate_left
  · intro w'
    go_simp
    with_reducible rfl
  rotate_left
  · simp only [Act.put, List.setIfInBounds_toArray, List.set_cons_zero, List.set_cons_succ, i64_w, i32_w]
    rfl
  refine pure_ (i := 6) (N := some 26) (v := ?_) (a' := ?_) #[true, true, true, false, true, true, true, false, false, false, false, false, false, false, false, false, false, false, false, false, false] rfl rfl (by kernel_rfl) (fun _ _ _ h => h) (Or.inl ⟨by rfl, ?_⟩) ?_ ?_
  rotate_left
  · intro w'
    go_simp
    with_reducible rfl
  rotate_left
  · simp only [Act.put, List.setIfInBounds_toArray, List.set_cons_zero, List.set_cons_succ, i64_w, i32_w]
    rfl
  refine pure_ (i := 7) (N := some 27) (v := ?_) (a' := ?_) #[true, true, true, false, true, true, true, true, false, false, false, false, false, false, false, false, false, false, false, false, false] rfl rfl (by kernel_rfl) (fun _ _ _ h => h) (Or.inl ⟨by rfl, ?_⟩) ?_ ?_
  rotate_left
  · intro w'
    go_simp
    with_reducible rfl
  rotate_left
  · simp only [Act.put, List.setIfInBounds_toArray, List.set_cons_zero, List.set_cons_succ, i64_w, i32_w]
    rfl
  refine pure_ (i := 9) (N := some 29) (v := ?_) (a' := ?_) #[true, true, true, false, true, true, true, true, false, true, false, false, false, false, false, false, false, false, false, false, false] rfl rfl (by kernel_rfl) (fun _ _ _ h => h) (Or.inl ⟨by rfl, ?_⟩) ?_ ?_
  rotate_left
  · intro w'
    go_simp
    with_reducible rfl
  rotate_left
  · simp only [Act.put, List.setIfInBounds_toArray, List.set_cons_zero, List.set_cons_succ, i64_w, i32_w]
    rfl
  refine pure_ (i := 11) (N := some 31) (v := ?_) (a' := ?_) #[true, true, true, false, true, true, true, true, false, true, false, true, false, false, false, false, false, false, false, false, false] rfl rfl (by kernel_rfl) (fun _ _ _ h => h) (Or.inl ⟨by rfl, ?_⟩) ?_ ?_
  rotate_left
  · intro w'
    go_simp
    with_reducible rfl
  rotate_left
  · simp only [Act.put, List.setIfInBounds_toArray, List.set_cons_zero, List.set_cons_succ, i64_w, i32_w]
    rfl
  refine pure_ (i := 12) (N := some 32) (v := ?_) (a' := ?_) #[true, true, true, false, true, true, true, true, false, true, false, true, true, false, false, false, false, false, false, false, false] rfl rfl (by kernel_rfl) (fun _ _ _ h => h) (Or.inl ⟨by rfl, ?_⟩) ?_ ?_
  rotate_left
  · intro w'
    go_simp
    with_reducible rfl
  rotate_left
  · simp only [Act.put, List.setIfInBounds_toArray, List.set_cons_zero, List.set_cons_succ, i64_w, i32_w]
    rfl
  refine pure_ (i := 13) (N := some 33) (v := ?_) (a' := ?_) #[true, true, true, false, true, true, true, true, false, true, false, true, true, true, false, false, false, false, false, false, false] rfl rfl (by kernel_rfl) (fun _ _ _ h => h) (Or.inl ⟨by rfl, ?_⟩) ?_ ?_
  rotate_left
  · intro w'
    go_simp
    with_reducible rfl
  rotate_left
  · simp only [Act.put, List.setIfInBounds_toArray, List.set_cons_zero, List.set_cons_succ, i64_w, i32_w]
    rfl
  refine take_ (i := 3) (N := some 23) (v := ?_) (a' := ?_) #[true, true, true, true, true, true, true, true, false, true, false, true, true, true, false, false, false, false, false, false, false] rfl rfl (by kernel_rfl) (fun _ _ _ h => h) (Or.inl ⟨by rfl, ?_⟩) hHeld ?_ ?_
  rotate_left
  · rintro w' ⟨s0, s1, s2⟩
    go_simp
    with_reducible rfl
  rotate_left
  · simp only [Act.put, List.setIfInBounds_toArray, List.set_cons_zero, List.set_cons_succ, i64_w, i32_w]
    rfl
  refine take_ (i := 8) (N := some 28) (v := ?_) (a' := ?_) #[true, true, true, true, true, true, true, true, true, true, false, true, true, true, false, false, false, false, false, false, false] rfl rfl (by kernel_rfl) (fun _ _ _ h => h) (Or.inl ⟨by rfl, ?_⟩) hHeld ?_ ?_
  rotate_left
  · rintro w' ⟨s0, s1, s2⟩
    go_simp
    with_reducible rfl
  rotate_left
  · simp only [Act.put, List.setIfInBounds_toArray, List.set_cons_zero, List.set_cons_succ, i64_w, i32_w]
    rfl
  refine take_ (i := 10) (N := some 30) (a' := ?_) #[true, true, true, true, true, true, true, true, true, true, true, true, true, true, false, false, false, false, false, false, false] rfl rfl (by kernel_rfl) (fun _ _ _ h => h) (yieldsIf_load_mid (by rfl) 27 _ rfl bx 0 (by rfl) [.int .i64 x.key, .int .i64 x.id] _ (fun w' h => h.2.1) Try.underlying27 rfl (by kernel_rfl)) hHeld ?_ ?_
  rotate_left
  · simp only [Act.put, List.setIfInBounds_toArray, List.set_cons_zero, List.set_cons_succ, i64_w, i32_w]
    rfl
  refine take_ (i := 14) (N := some 34) (v := ?_) (a' := ?_) #[true, true, true, true, true, true, true, true, true, true, true, true, true, true, true, false, false, false, false, false, false] rfl rfl (by kernel_rfl) (fun _ _ _ h => h) (Or.inl ⟨by rfl, ?_⟩) hHeld ?_ ?_
  rotate_left
  · rintro w' ⟨s0, s1, s2⟩
    go_simp
    with_reducible rfl
  rotate_left
  · simp only [Act.put, List.setIfInBounds_toArray, List.set_cons_zero, List.set_cons_succ, i64_w, i32_w]
    rfl
  refine pure_ (i := 15) (N := some 35) (v := ?_) (a' := ?_) #[true, true, true, true, true, true, true, true, true, true, true, true, true, true, true, true, false, false, false, false, false] rfl rfl (by kernel_rfl) (fun _ _ _ h => h) (Or.inl ⟨by rfl, ?_⟩) ?_ ?_
  rotate_left
  · intro w'
    go_simp
    with_reducible rfl
  rotate_left
  · simp only [Act.put, List.setIfInBounds_toArray, List.set_cons_zero, List.set_cons_succ, i64_w, i32_w]
    rfl
  refine pure_ (i := 16) (N := some 36) (v := ?_) (a' := ?_) #[true, true, true, true, true, true, true, true, true, true, true, true, true, true, true, true, true, false, false, false, false] rfl rfl (by kernel_rfl) (fun _ _ _ h => h) (Or.inl ⟨by rfl, ?_⟩) ?_ ?_
  rotate_left
  · intro w'
    go_simp
    with_reducible rfl
  rotate_left
  · simp only [Act.put, List.setIfInBounds_toArray, List.set_cons_zero, List.set_cons_succ, i64_w, i32_w]
    rfl
  refine last_ (i := 17) (N := none) #[true, true, true, true, true, true, true, true, true, true, true, true, true, true, true, true, true, true, false, false, false] rfl rfl (by kernel_rfl) (by decide) (fun K hK => ?_)
  refine skip_ (w1 := W1.drew.setCells hb (i * 4) (Cells.cs x)) (by rfl) rfl (run_u (run_storeAt_mid _ hb (i * 4) 27 (Cells.cs x).toArray (there_le TH.out (by show 2 ≤ 4; omega)) (by kernel_rfl) (Array.all_eq_true_iff_forall_mem.2 (fun v hv => Cells.one x v (by simpa using hv))))) ?_
  refine hK.out _ _ ?_
  clear hK K
  refine pure_ (i := 18) (N := some 37) (v := ?_) (a' := ?_) #[true, true, true, true, true, true, true, true, true, true, true, true, true, true, true, true, true, true, true, false, false] rfl rfl (by kernel_rfl) (fun _ _ _ h => h) (Or.inl ⟨by rfl, ?_⟩) ?_ ?_
  rotate_left
  · intro w'
    go_simp
    with_reducible rfl
  rotate_left
  · simp only [Act.put, List.setIfInBounds_toArray, List.set_cons_zero, List.set_cons_succ, i64_w, i32_w]
    rfl
  refine pure_ (i := 19) (N := some 38) (v := ?_) (a' := ?_) #[true, true, true, true, true, true, true, true, true, true, true, true, true, true, true, true, true, true, true, true, false] rfl rfl (by kernel_rfl) (fun _ _ _ h => h) (Or.inl ⟨by rfl, ?_⟩) ?_ ?_
  rotate_left
  · intro w'
    go_simp
    with_reducible rfl
  rotate_left
  · simp only [Act.put, List.setIfInBounds_toArray, List.set_cons_zero, List.set_cons_succ, i64_w, i32_w]
    rfl
  refine last_ (i := 20) (N := none) #[true, true, true, true, true, true, true, true, true, true, true, true, true, true, true, true, true, true, true, true, true] rfl rfl (by kernel_rfl) (by decide) (fun K hK => ?_)
  refine skip_ (w1 := (W1.drew.setCells hb (i * 4) (Cells.cs x)).setCell ⟨hb, i * 4 + 3, none⟩ (.int .i64 ck)) (by rfl) rfl (run_u (run_storeAt_one (by kernel_rfl) rfl (o := .int .i64 e.t) CT.out FT.out)) ?_
  refine hK.out _ _ ?_
  clear hK K
  refine done_ (by kernel_rfl) ?_
  rw [← HW.out.2.1]
  clear hHeld c1 c4 X1
  go_wp2_with fail
  rw [← HW.out.2.2.1]
  refine CU.out.mono ?_
  rintro r w6 ⟨rfl, es', p, hq6, hp6, hd6, hi6, _, he6⟩
  obtain ⟨l6, clk6, hml6, hf6⟩ := hq6.map
  have hr6 := run_lookupL (P := Try.prog) Try.underlying87 Try.underlying3 zero3 hml6 h false
  rw [← hf6 h, (hidx_some hq6.nd).2 ⟨p, _, hi6, rfl, rfl⟩] at hr6
  have HR6 := Lib.hid hr6
  have c2 : w6.cell? ⟨g, 2, none⟩ = some (.map (some mb)) := by simp [World.cell?, hq6.blk]
  have hpl : p < es'.length := (List.getElem?_eq_some_iff.1 hi6).1
  have hl6 : es'.length = es.length := by rw [hp6.length_eq, List.length_set]
  have CD := Lib.hid (down_E hq6 p hd6 (by omega) (by rw [hl6]; exact hlen))
  have H6 := Lib.hid (And.intro hp6 he6)
  clear hq6 hp6 hd6 hi6 he6 hml6 hf6 hr6 hl6 d4 fg
  go_wp2_with (first | (at_lookup; refine wpL_v (some 55) rfl rfl (run_v HR6.out) ?_))
  refine CD.out.mono ?_
  rintro r w7 ⟨rfl, es7, hq7, hp7, hh7, he7⟩
  have H7 := Lib.hid (And.intro hq7 (And.intro hp7 (And.intro hh7 he7)))
  clear hq7 hp7 hh7 he7
  go_wp2_with fail
  go_ret
  have conv : ∀ k, (some k = (Value.slice (some ⟨hb, 0, none⟩) es.length cap).ownBlock ∨ k = mb) → own g (.slice (some ⟨hb, 0, none⟩) es.length cap) mb k := fun k h => h.elim (fun h => .inr (.inl h)) (fun h => .inr (.inr h))
  exact ⟨rfl, es7, H7.out.1, H7.out.2.1.trans H6.out.1, H7.out.2.2.1, (E15.out.trans H6.out.2 (fun k h => .inl (conv k h))).trans H7.out.2.2.2 (fun k h => .inl (conv k h))⟩
end Go.Proofs.Ytepfbhigeghjjaa.Q
