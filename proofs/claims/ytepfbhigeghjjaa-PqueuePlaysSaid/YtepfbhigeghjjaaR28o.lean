/- The reference queue: Pop. -/
import Derived.Test.YtepfbhigeghjjaaR28k
namespace Go.Proofs.Ytepfbhigeghjjaa.Q
open Go.RowKit Go.Proofs.YtepfbhigeghjjaaW.PrintLast
set_option linter.unusedVariables false
set_option linter.unusedSimpArgs false

theorem flat_one (es : List (En E28)) : ∀ u ∈ flat es, u.oneCell' = true := by
  intro u hu
  obtain ⟨e, _, he⟩ := List.mem_flatMap.1 hu
  exact Array.all_eq_true_iff_forall_mem.1 (enc_all e) u (by simpa using he)
theorem flat_app (a b : List (En E28)) : flat (a ++ b) = flat a ++ flat b := by simp [flat]
theorem info98 : ∃ i0, Try.prog.info? 98 = some i0 ∧ i0.zero = some (.agg #[.int .i64 0, .int .i64 0, .int .i64 0, .int .i64 0]) ∧ i0.size = 4 ∧ i0.bytes = 32 :=
  info_parts (show (Try.prog.info? 98).map (fun i => (i.zero, i.size, i.bytes)) = some (some (.agg #[.int .i64 0, .int .i64 0, .int .i64 0, .int .i64 0]), 4, 32) from by kernel_rfl)
/-- Two rows laid one behind the other in a new one: what stays when element n goes. -/
theorem pop_appends {B rb cap n : Nat} {W : World} {es : List (En E28)} (hB : B ≤ W.heap.size) (hrow : Row 98 B W (.slice (some ⟨rb, 0, none⟩) es.length cap) es) (hn : n < es.length) (hlen : es.length ≤ 1000000000) (a : Addr) (ha : 0 < es.length - (n + 1) → a = ⟨rb, (n + 1) * 4, none⟩) (c : Nat) :
    ∃ v1 w5, (Builtin.append_ #[39, 39] 39 #[.slice (some ⟨W.heap.size, 0, none⟩) 0 0, .slice (some ⟨rb, 0, none⟩) n cap]).run Try.prog (W.alloc (.cells #[] 98)) = .ok v1 w5 ∧ Eff (fun _ => False) W w5 ∧
      ∃ v2 w6, (Builtin.append_ #[39, 39] 39 #[v1, .slice (some a) (es.length - (n + 1)) c]).run Try.prog w5 = .ok v2 w6 ∧ Eff (fun _ => False) W w6 ∧ Row 98 B w6 v2 (es.eraseIdx n) ∧ (∀ k, v2.ownBlock = some k → W.heap.size ≤ k) ∧ ∃ A n' c', v2 = .slice A n' c' := by
  obtain ⟨i0, hi0, hz0, hz1, hz2⟩ := info98
  have hsplit : flat es = flat (es.take n) ++ flat (es.drop n) := by rw [← flat_app, List.take_append_drop]
  have hsplit2 : flat es = flat (es.take (n + 1)) ++ flat (es.drop (n + 1)) := by rw [← flat_app, List.take_append_drop]
  have E0 : Eff (fun _ => False) W (W.alloc (.cells #[] 98)) := eff_alloc W _
  have R0 : (W.alloc (.cells #[] 98)).ownsRow W.heap.size 98 4 (.slice (some ⟨W.heap.size, 0, none⟩) 0 0) 0 [] :=
    ⟨rfl, .inr ⟨_, 0, #[], rfl, Nat.le_refl _, heap_alloc_new W _, Nat.le_refl _, by decide, rfl, rfl⟩⟩
  have hr0 : Row 98 B (W.alloc (.cells #[] 98)) (.slice (some ⟨rb, 0, none⟩) es.length cap) es := hrow.eff E0 (fun _ _ h => h)
  have hl1 : (flat (es.take n)).length = n * 4 := by rw [flat_length, List.length_take, Nat.min_eq_left (Nat.le_of_lt hn)]; rfl
  have hl2 : (flat (es.drop (n + 1))).length = (es.length - (n + 1)) * 4 := by rw [flat_length, List.length_drop]; rfl
  have hl3 : (flat (es.take (n + 1))).length = (n + 1) * 4 := by rw [flat_length, List.length_take, Nat.min_eq_left hn]; rfl
  obtain ⟨v1, w5, hr5, ho5, hg5, _, ha5⟩ := run_append_own_at (P := Try.prog) (W.alloc (.cells #[] 98)) W.heap.size 39 39 98 i0 (.agg #[.int .i64 0, .int .i64 0, .int .i64 0, .int .i64 0]) 4 32 Try.underlying39 hi0 hz0 hz1 hz2 rfl (by decide) (.slice (some ⟨W.heap.size, 0, none⟩) 0 0) 0 [] R0
    ⟨rb, 0, none⟩ n cap (flat (es.take n)) hl1 (fun j u hu => World.ownsRow.cells hr0 (g := rb) rfl j u (by rw [hsplit, List.getElem?_append_left (List.getElem?_eq_some_iff.1 hu).1]; exact hu)) (flat_one _) (by simp only [maxLen]; omega) (by omega) (by simp)
  have E5 : Eff (fun _ => False) W w5 := (E0.trans (Eff.of_grown hg5) (fun k h => .inr (Nat.le_of_eq (show W.heap.size = k from by simpa [Value.ownBlock, eq_comm] using h))))
  refine ⟨v1, w5, hr5, E5, ?_⟩
  have hr5' : Row 98 B w5 (.slice (some ⟨rb, 0, none⟩) es.length cap) es := hrow.eff E5 (fun _ _ h => h)
  obtain ⟨v2, w6, hr6, ho6, hg6, _, ha6⟩ := run_append_own_at (P := Try.prog) w5 W.heap.size 39 39 98 i0 (.agg #[.int .i64 0, .int .i64 0, .int .i64 0, .int .i64 0]) 4 32 Try.underlying39 hi0 hz0 hz1 hz2 rfl (by decide) v1 (0 + n) _ ho5
    a (es.length - (n + 1)) c (flat (es.drop (n + 1))) hl2 (fun j u hu => by
      have hj := (List.getElem?_eq_some_iff.1 hu).1
      have hp : 0 < es.length - (n + 1) := by rw [hl2] at hj; omega
      rw [ha hp]
      have h1 := World.ownsRow.cells hr5' (g := rb) rfl ((n + 1) * 4 + j) u (by rw [hsplit2, List.getElem?_append_right (by rw [hl3]; omega), hl3, Nat.add_sub_cancel_left]; exact hu)
      rw [Addr.add_mid] at h1 ⊢
      rw [Nat.zero_add] at h1
      exact h1) (flat_one _) (by simp only [maxLen]; omega) (by omega) (E5.size)
  have own1 : ∀ k, v1.ownBlock = some k → W.heap.size ≤ k := by
    intro k hk
    rcases ha5 with h | h
    · rw [h] at hk
      have h2 : W.heap.size = k := by simpa [Value.ownBlock] using hk
      omega
    · rw [h] at hk
      cases hk
      simp
  refine ⟨v2, w6, hr6, E5.trans (Eff.of_grown hg6) (fun k h => .inr (own1 k h.symm)), ?_, ?_, ?_⟩
  · rw [List.nil_append, ← flat_app, ← List.eraseIdx_eq_take_drop_succ] at ho6
    have hlen2 : (es.eraseIdx n).length = 0 + n + (es.length - (n + 1)) := by rw [List.length_eraseIdx, if_pos hn]; omega
    refine ⟨by rw [hlen2]; exact ho6.1, ?_⟩
    rw [hlen2]
    rcases ho6.2 with h | ⟨g, cap', cur, h1, h2, h3⟩
    · exact .inl h
    · exact .inr ⟨g, cap', cur, h1, Nat.le_trans hB h2, h3⟩
  · intro k hk
    exact (World.ownsRow.lt ho6 k hk).1
  · rcases ho6.2 with ⟨h, _⟩ | ⟨g, cap', cur, h, _⟩
    · exact ⟨_, _, _, h⟩
    · exact ⟨_, _, _, h⟩

def PopR (B : Nat) (w : World) (m : Nat) (hv : Value) (es : List (En E28)) (nx ck : Int) (r : Ending) (w' : World) : Prop :=
  (es = [] ∧ r = .returned (.tuple #[.agg #[.int .i64 0, .int .i64 0], .bool false]) ∧ Below w.heap.size w w') ∨ ∃ (n : Nat) (e : En E28) (hv' : Value), r = .returned (.tuple #[.agg #[.int .i64 e.x.key, .int .i64 e.x.id], .bool true]) ∧ es[n]? = some e ∧ (∀ x ∈ es, bef x e = false) ∧ IsR B w' m hv' (es.eraseIdx n) nx ck ∧ Eff (fun k => k = m ∨ some k = hv.ownBlock) w w'
set_option maxHeartbeats 4000000 in
set_option maxRecDepth 100000 in
theorem pop_R {B : Nat} {w : World} {m : Nat} {hv : Value} {es : List (En E28)} {nx ck : Int} (hq : IsR B w m hv es nx ck) (hlen : es.length ≤ 1000000000) :
    Calls Try.prog 35 #[.pointer (some ⟨m, 0, none⟩)] w (PopR B w m hv es nx ck) := by
  have hml := (Array.getElem?_eq_some_iff.1 hq.blk).1
  obtain ⟨W1, hW1⟩ : ∃ W, W = w.alloc (.cells #[.int .i64 0, .int .i64 0] 27) := ⟨_, rfl⟩
  obtain ⟨bx, hbx⟩ : ∃ b, b = w.heap.size := ⟨_, rfl⟩
  have E1 : Hid (Eff (fun _ => False) w W1) := by rw [hW1]; exact eff_alloc w _
  have RB1 : Hid (W1.heap[bx]? = some (.cells #[.int .i64 0, .int .i64 0] 27 (0, 0))) := by show _ = _; rw [hbx, hW1]; exact heap_alloc_new w _
  have Q1 : Hid (IsR B W1 m hv es nx ck) := hq.eff E1.out (fun _ _ h => h)
  have CF := Lib.hid (first_R Q1.out hlen)
  have HX := Lib.hid hbx
  have HW1 := Lib.hid hW1
  have HQ := Lib.hid hq
  clear hq hbx hW1
  have HML := Lib.hid hml
  clear hml
  go_enter Try.func35, Try.ntmps35
  go_wp2_with fail
  rw [← HW1.out, ← HX.out]
  with_reducible refine CF.out.mono ?_
  rintro r w2 ⟨i, rfl, hcase, hb⟩
  have RB2 : w2.heap[bx]? = some (.cells #[.int .i64 0, .int .i64 0] 27 (0, 0)) := below_heap hb RB1.out
  have B2 : Below w.heap.size w w2 := (E1.out.below (fun _ h => h.elim)).trans (hb.mono E1.out.size)
  have Q2 : IsR B w2 m hv es nx ck := Q1.out.eff (Eff.of_below hb (fun _ => False)) (fun _ _ h => h)
  have RB2' := Lib.hid RB2
  have B2' := Lib.hid B2
  have Q2' := Lib.hid Q2
  rcases hcase with ⟨hnil, rfl⟩ | ⟨n, e, rfl, hn, hmin⟩
  · have HN := Lib.hid hnil
    have x0 : w2.cell? ⟨bx, 0, none⟩ = some (.int .i64 0) := by simp [World.cell?, RB2]
    have x1 : w2.cell? ⟨bx, 1, none⟩ = some (.int .i64 0) := by simp [World.cell?, RB2]
    have x2 : w2.frozen? ⟨bx, 0, none⟩ = false := frozen_blk RB2 0
    have x3 : w2.frozen? ⟨bx, 1, none⟩ = false := frozen_blk RB2 1
    clear RB2 B2 Q2 hb CF hnil
    go_wp2_with fail
    refine bodyPost_ret (res_ct rfl _ _ bx [.int .i64 0, .int .i64 0] (by rfl) ?_ Try.underlying27 rfl (by kernel_rfl)) rfl ?_
    · refine box_range (L := [.int .i64 0, .int .i64 0]) (t := 27) ?_ 0 _ (fun j v h => by rw [Nat.zero_add]; exact h)
      exact set_cell (set_cell RB2'.out 0 _) 1 _
    · exact .inl ⟨HN.out, rfl, (B2'.out.setCell (p := ⟨bx, 0, none⟩) (by rw [HX.out]; exact Nat.le_refl _) _).setCell (p := ⟨bx, 1, none⟩) (by rw [HX.out]; exact Nat.le_refl _) _⟩
  · have hnl : n < es.length := (List.getElem?_eq_some_iff.1 hn).1
    obtain ⟨rb, cap, cur, hv', _, _, hcap, hmx, _, _⟩ := Q2'.out.row.form (by omega)
    subst hv'
    have c1 : w2.cell? ⟨m, 0, none⟩ = some (.slice (some ⟨rb, 0, none⟩) es.length cap) := by simp [World.cell?, Q2'.out.blk]
    have y1 : w2.cell? ⟨rb, n * 4, none⟩ = some (.int .i64 e.x.key) := Q2'.out.row.range n e hn 0 _ rfl
    have y2 : w2.cell? ⟨rb, n * 4 + 1, none⟩ = some (.int .i64 e.x.id) := Q2'.out.row.range n e hn 1 _ rfl
    have hj1 : (n : Int) < (es.length : Int) := by omega
    have HN := Lib.hid (And.intro hn hmin)
    have BX2 : Hid (bx < w2.heap.size) := (Array.getElem?_eq_some_iff.1 RB2).1
    obtain ⟨W3, hW3⟩ : ∃ W, W = w2.alloc (.cells #[.int .i64 e.x.key, .int .i64 e.x.id] 27) := ⟨_, rfl⟩
    obtain ⟨px, hpx⟩ : ∃ p, p = w2.heap.size := ⟨_, rfl⟩
    have E23 : Eff (fun _ => False) w2 W3 := by rw [hW3]; exact eff_alloc w2 _
    have G3 : Hid (W3.heap[m]? = some (.cells #[.slice (some ⟨rb, 0, none⟩) es.length cap, .int .i64 nx, .int .i64 ck] 41 (0, 0))) := E23.heap Q2.blk (fun h => h)
    have RO3 : Hid (Row 98 B W3.drew (.slice (some ⟨rb, 0, none⟩) es.length cap) es) := Q2.row.eff E23.drew (fun _ _ h => h)
    have RB3 : Hid (W3.heap[bx]? = some (.cells #[.int .i64 0, .int .i64 0] 27 (0, 0))) := E23.heap RB2 (fun h => h)
    have PX3 : Hid (W3.heap[px]? = some (.cells #[.int .i64 e.x.key, .int .i64 e.x.id] 27 (0, 0))) := by show _ = _; rw [hpx, hW3]; exact heap_alloc_new w2 _
    have E3 : Hid (Eff (fun _ => False) w W3) := (Eff.of_below B2 _).trans E23 (fun _ h => h.elim)
    have BB3 : Hid (B ≤ W3.drew.heap.size) := Nat.le_trans (Nat.le_trans HQ.out.mB (Nat.le_of_lt HML.out)) E3.out.size
    have BX3 : Hid (bx < W3.heap.size) := Nat.lt_of_lt_of_le BX2.out E23.size
    have ML3 : Hid (m < w.heap.size ∧ w.heap.size ≤ w2.heap.size) := ⟨HML.out, B2.size⟩
    have c3 : W3.cell? ⟨m, 0, none⟩ = some (.slice (some ⟨rb, 0, none⟩) es.length cap) := by simp [World.cell?, G3.out]
    have HW3 := Lib.hid hW3
    have HP := Lib.hid hpx
    have hwn : IntKind.i64.wrap ((n : Int) + 1) = (n : Int) + 1 := IntWalk.i64_in _ (by omega)
    have HC := Lib.hid hcap
    clear RB2 B2 Q2 hb CF hn hmin hW3 hpx E23 hcap hmx BX2
    go_wp2_with fail
    rw [← HW3.out, ← HP.out]
    have hcap := HC.out
    have hi1 : (n : Int) ≤ (cap : Int) := by omega
    have hi2 : (n : Int) + 1 ≤ (es.length : Int) := by omega
    have hi0 : ¬ (n : Int) < 0 := by omega
    have hi3 : (0 : Int) ≤ (n : Int) + 1 := by omega
    by_cases hl : n + 1 = cap
    · subst hl
      have hi4 : (n : Int) ≤ (n : Int) + 1 := by omega
      obtain hle : es.length = n + 1 := by omega
      as_aux_lemma =>
        have PP0 := pop_appends (n := n) (W := W3.drew) BB3.out RO3.out hnl hlen ⟨rb, 0, none⟩ (fun h => by omega) 0
        rw [show es.length - (n + 1) = 0 by omega] at PP0
        obtain ⟨v1, w5, hr5, e5, v2, w6, hr6, e6, ro6, own6, A6, n6, k6, hv6⟩ := PP0
        subst hv6
        have PP := Lib.hid (And.intro hr5 hr6)
        have E6 := Lib.hid e6
        have R6 := Lib.hid ro6
        have O6 := Lib.hid own6
        have c5 : w5.cell? ⟨m, 0, none⟩ = some (.slice (some ⟨rb, 0, none⟩) es.length (n + 1)) := e5.cell (show W3.drew.cell? _ = _ from c3) (fun h => h)
        have c6 : w6.cell? ⟨m, 0, none⟩ = some (.slice (some ⟨rb, 0, none⟩) es.length (n + 1)) := e6.cell (show W3.drew.cell? _ = _ from c3) (fun h => h)
        have G6 : Hid (w6.heap[m]? = some (.cells #[.slice (some ⟨rb, 0, none⟩) es.length (n + 1), .int .i64 nx, .int .i64 ck] 41 (0, 0))) := e6.heap (show W3.drew.heap[m]? = _ from G3.out) (fun h => h)
        have fz6 : w6.frozen? ⟨m, 0, none⟩ = false := frozen_blk G6.out 0
        have RB6 : Hid (w6.heap[bx]? = some (.cells #[.int .i64 0, .int .i64 0] 27 (0, 0))) := e6.heap (show W3.drew.heap[bx]? = _ from RB3.out) (fun h => h)
        have PX6 : Hid (w6.heap[px]? = some (.cells #[.int .i64 e.x.key, .int .i64 e.x.id] 27 (0, 0))) := e6.heap (show W3.drew.heap[px]? = _ from PX3.out) (fun h => h)
        clear hr5 hr6 e5 e6 ro6 own6
        refine start_ (n := 20) (S := fun w' => w'.cell? ⟨m, 0, none⟩ = some (.slice (some ⟨rb, 0, none⟩) es.length (n + 1))) (ds := [19]) #[false, false, false, false, false, false, false, false, false, false, false, false, false, false, false, false, false, false, false, false] (by kernel_rfl) rfl rfl c3 (fun hHeld => ?_)
        refine pure_ (i := 0) (N := some 19) (v := ?_) (a' := ?_) #[true, false, false, false, false, false, false, false, false, false, false, false, false, false, false, false, false, false, false, false] rfl rfl (by kernel_rfl) (fun _ _ _ h => h) (Or.inl ⟨by rfl, ?_⟩) ?_ ?_
        rotate_left
        · intro w'
          go_simp
          with_reducible rfl
        rotate_left
        · simp only [Act.put, List.setIfInBounds_toArray, List.set_cons_zero, List.set_cons_succ, i64_w, i32_w]
          rfl
        refine pure_ (i := 2) (N := some 21) (v := ?_) (a' := ?_) #[true, false, true, false, false, false, false, false, false, false, false, false, false, false, false, false, false, false, false, false] rfl rfl (by kernel_rfl) (fun _ _ _ h => h) (Or.inl ⟨by rfl, ?_⟩) ?_ ?_
        rotate_left
        · intro w'
          go_simp
          with_reducible rfl
        rotate_left
        · simp only [Act.put, List.setIfInBounds_toArray, List.set_cons_zero, List.set_cons_succ, i64_w, i32_w]
          rfl
        refine pure_ (i := 3) (N := some 22) (v := ?_) (a' := ?_) #[true, false, true, true, false, false, false, false, false, false, false, false, false, false, false, false, false, false, false, false] rfl rfl (by kernel_rfl) (fun _ _ _ h => h) (Or.inl ⟨by rfl, ?_⟩) ?_ ?_
        rotate_left
        · intro w'
          go_simp
          with_reducible rfl
        rotate_left
        · simp only [Act.put, List.setIfInBounds_toArray, List.set_cons_zero, List.set_cons_succ, i64_w, i32_w]
          rfl
        refine pure_ (i := 4) (N := some 23) (v := ?_) (a' := ?_) #[true, false, true, true, true, false, false, false, false, false, false, false, false, false, false, false, false, false, false, false] rfl rfl (by kernel_rfl) (fun _ _ _ h => h) (Or.inl ⟨by rfl, ?_⟩) ?_ ?_
        rotate_left
        · intro w'
          go_simp
          with_reducible rfl
        rotate_left
        · simp only [Act.put, List.setIfInBounds_toArray, List.set_cons_zero, List.set_cons_succ, i64_w, i32_w]
          rfl
        refine pure_ (i := 6) (N := some 25) (v := ?_) (a' := ?_) #[true, false, true, true, true, false, true, false, false, false, false, false, false, false, false, false, false, false, false, false] rfl rfl (by kernel_rfl) (fun _ _ _ h => h) (Or.inl ⟨by rfl, ?_⟩) ?_ ?_
        rotate_left
        · intro w'
          go_simp
          with_reducible rfl
        rotate_left
        · simp only [Act.put, List.setIfInBounds_toArray, List.set_cons_zero, List.set_cons_succ, i64_w, i32_w]
          rfl
        refine pure_ (i := 9) (N := some 28) (v := ?_) (a' := ?_) #[true, false, true, true, true, false, true, false, false, true, false, false, false, false, false, false, false, false, false, false] rfl rfl (by kernel_rfl) (fun _ _ _ h => h) (Or.inl ⟨by rfl, ?_⟩) ?_ ?_
        rotate_left
        · intro w'
          go_simp
          with_reducible rfl
        rotate_left
        · simp only [Act.put, List.setIfInBounds_toArray, List.set_cons_zero, List.set_cons_succ, i64_w, i32_w]
          rfl
        refine pure_ (i := 10) (N := some 29) (v := ?_) (a' := ?_) #[true, false, true, true, true, false, true, false, false, true, true, false, false, false, false, false, false, false, false, false] rfl rfl (by kernel_rfl) (fun _ _ _ h => h) (Or.inl ⟨by rfl, ?_⟩) ?_ ?_
        rotate_left
        · intro w'
          go_simp
          with_reducible rfl
        rotate_left
        · simp only [Act.put, List.setIfInBounds_toArray, List.set_cons_zero, List.set_cons_succ, i64_w, i32_w]
          rfl
        refine pure_ (i := 11) (N := some 30) (v := ?_) (a' := ?_) #[true, false, true, true, true, false, true, false, false, true, true, true, false, false, false, false, false, false, false, false] rfl rfl (by kernel_rfl) (fun _ _ _ h => h) (Or.inl ⟨by rfl, ?_⟩) ?_ ?_
        rotate_left
        · intro w'
          go_simp
          with_reducible rfl
        rotate_left
        · simp only [Act.put, List.setIfInBounds_toArray, List.set_cons_zero, List.set_cons_succ, i64_w, i32_w]
          rfl
        refine pure_ (i := 13) (N := some 32) (v := ?_) (a' := ?_) #[true, false, true, true, true, false, true, false, false, true, true, true, false, true, false, false, false, false, false, false] rfl rfl (by kernel_rfl) (fun _ _ _ h => h) (Or.inl ⟨by rfl, ?_⟩) ?_ ?_
        rotate_left
        · intro w'
          go_simp
          with_reducible rfl
        rotate_left
        · simp only [Act.put, List.setIfInBounds_toArray, List.set_cons_zero, List.set_cons_succ, i64_w, i32_w]
          rfl
        refine pure_ (i := 14) (N := some 33) (v := ?_) (a' := ?_) #[true, false, true, true, true, false, true, false, false, true, true, true, false, true, true, false, false, false, false, false] rfl rfl (by kernel_rfl) (fun _ _ _ h => h) (Or.inl ⟨by rfl, ?_⟩) ?_ ?_
        rotate_left
        · intro w'
          go_simp
          with_reducible rfl
        rotate_left
        · simp only [Act.put, List.setIfInBounds_toArray, List.set_cons_zero, List.set_cons_succ, i64_w, i32_w]
          rfl
        refine take_ (i := 5) (N := some 24) (v := ?_) (a' := ?_) #[true, false, true, true, true, true, true, false, false, true, true, true, false, true, true, false, false, false, false, false] rfl rfl (by kernel_rfl) (fun _ _ _ h => h) (Or.inl ⟨by rfl, ?_⟩) hHeld ?_ ?_
        rotate_left
        · rintro w' s0
          go_simp
          with_reducible rfl
        rotate_left
        · simp only [Act.put, List.setIfInBounds_toArray, List.set_cons_zero, List.set_cons_succ, i64_w, i32_w]
          rfl
        refine pure_ (i := 7) (N := some 26) (v := ?_) (a' := ?_) #[true, false, true, true, true, true, true, true, false, true, true, true, false, true, true, false, false, false, false, false] rfl rfl (by kernel_rfl) (fun _ _ _ h => h) (Or.inl ⟨by rfl, ?_⟩) ?_ ?_
        rotate_left
        · intro w'
          go_simp
          with_reducible rfl
        rotate_left
        · simp only [Act.put, List.setIfInBounds_toArray, List.set_cons_zero, List.set_cons_succ, i64_w, i32_w]
          rfl
        refine take_ (i := 12) (N := some 31) (v := ?_) (a' := ?_) #[true, false, true, true, true, true, true, true, false, true, true, true, true, true, true, false, false, false, false, false] rfl rfl (by kernel_rfl) (fun _ _ _ h => h) (Or.inl ⟨by rfl, ?_⟩) hHeld ?_ ?_
        rotate_left
        · rintro w' s0
          go_simp
          with_reducible rfl
        rotate_left
        · simp only [Act.put, List.setIfInBounds_toArray, List.set_cons_zero, List.set_cons_succ, i64_w, i32_w]
          rfl
        refine pure_ (i := 15) (N := some 34) (v := ?_) (a' := ?_) #[true, false, true, true, true, true, true, true, false, true, true, true, true, true, true, true, false, false, false, false] rfl rfl (by kernel_rfl) (fun _ _ _ h => h) (Or.inl ⟨by rfl, ?_⟩) ?_ ?_
        rotate_left
        · intro w'
          go_simp
          with_reducible rfl
        rotate_left
        · simp only [Act.put, List.setIfInBounds_toArray, List.set_cons_zero, List.set_cons_succ, i64_w, i32_w]
          rfl
        refine one_ (i := 1) (N := some 20) #[true, true, true, true, true, true, true, true, false, true, true, true, true, true, true, true, false, false, false, false] rfl rfl (by kernel_rfl) (by decide) (fun K hK => ?_)
        refine value_ (w1 := ?_) (v := ?_) (by rfl) rfl ?_ ?_
        rotate_left 2
        · go_simp
          constructor
          · rfl
          · rfl
        refine hK.out _ _ ((eff_alloc _ _).cell hHeld (fun h => h)) (fun hHeld => ?_)
        clear hK K
        refine norm_ (a' := ?_) ?_ ?_
        rotate_left
        · show Act.put _ (some 20) _ = _
          simp only [Act.put, List.setIfInBounds_toArray, List.set_cons_zero, List.set_cons_succ, i64_w, i32_w]
          rfl
        refine one_ (i := 8) (N := some 27) #[true, true, true, true, true, true, true, true, true, true, true, true, true, true, true, true, false, false, false, false] rfl rfl (by kernel_rfl) (by decide) (fun K hK => ?_)
        refine value_ (w1 := w5) (v := v1) (by rfl) rfl (exec_append rfl (by rfl) (by rfl) PP.out.1) ?_
        refine hK.out _ _ c5 (fun hHeld => ?_)
        clear hK K
        refine norm_ (a' := ?_) ?_ ?_
        rotate_left
        · show Act.put _ (some 27) _ = _
          simp only [Act.put, List.setIfInBounds_toArray, List.set_cons_zero, List.set_cons_succ, i64_w, i32_w]
          rfl
        refine one_ (i := 16) (N := some 35) #[true, true, true, true, true, true, true, true, true, true, true, true, true, true, true, true, true, false, false, false] rfl rfl (by kernel_rfl) (by decide) (fun K hK => ?_)
        refine value_ (w1 := w6) (v := .slice A6 n6 k6) (by rfl) rfl (exec_append rfl (by rfl) (by rfl) PP.out.2) ?_
        refine hK.out _ _ c6 (fun hHeld => ?_)
        clear hK K
        refine norm_ (a' := ?_) ?_ ?_
        rotate_left
        · show Act.put _ (some 35) _ = _
          simp only [Act.put, List.setIfInBounds_toArray, List.set_cons_zero, List.set_cons_succ, i64_w, i32_w]
          rfl
        refine pure_ (i := 17) (N := some 36) (v := ?_) (a' := ?_) #[true, true, true, true, true, true, true, true, true, true, true, true, true, true, true, true, true, true, false, false] rfl rfl (by kernel_rfl) (fun _ _ _ h => h) (Or.inl ⟨by rfl, ?_⟩) ?_ ?_
        rotate_left
        · intro w'
          go_simp
          with_reducible rfl
        rotate_left
        · simp only [Act.put, List.setIfInBounds_toArray, List.set_cons_zero, List.set_cons_succ, i64_w, i32_w]
          rfl
        refine pure_ (i := 18) (N := some 37) (v := ?_) (a' := ?_) #[true, true, true, true, true, true, true, true, true, true, true, true, true, true, true, true, true, true, true, false] rfl rfl (by kernel_rfl) (fun _ _ _ h => h) (Or.inl ⟨by rfl, ?_⟩) ?_ ?_
        rotate_left
        · intro w'
          go_simp
          with_reducible rfl
        rotate_left
        · simp only [Act.put, List.setIfInBounds_toArray, List.set_cons_zero, List.set_cons_succ, i64_w, i32_w]
          rfl
        refine last_ (i := 19) (N := none) #[true, true, true, true, true, true, true, true, true, true, true, true, true, true, true, true, true, true, true, true] rfl rfl (by kernel_rfl) (by decide) (fun K hK => ?_)
        refine skip_ (w1 := w6.setCell ⟨m, 0, none⟩ (.slice A6 n6 k6)) (by rfl) rfl (run_u (run_storeAt_one (by kernel_rfl) rfl (o := .slice (some ⟨rb, 0, none⟩) es.length (n + 1)) hHeld fz6)) ?_
        refine hK.out _ _ ?_
        clear hK K
        refine done_ (by kernel_rfl) ?_
        clear hHeld c5 c6 c3
        obtain ⟨W7, hW7⟩ : ∃ W, W = w6.setCell ⟨m, 0, none⟩ (.slice A6 n6 k6) := ⟨_, rfl⟩
        rw [← hW7]
        have nmb : ¬ bx = m := fun h => by have h1 := ML3.out; have h2 := HX.out; omega
        have nmp : ¬ px = m := fun h => by have h1 := ML3.out; have h2 := HP.out; omega
        have E7 : Hid (Eff (fun k => k = m) w6 W7) := by rw [hW7]; exact eff_setCell w6 m 0 _
        have G7 : Hid (W7.heap[m]? = some (.cells #[.slice A6 n6 k6, .int .i64 nx, .int .i64 ck] 41 (0, 0))) := by
          show _ = _
          rw [hW7]
          exact set_cell G6.out 0 _
        have R7 : Hid (Row 98 B W7 (.slice A6 n6 k6) (es.eraseIdx n)) := R6.out.eff E7.out (fun k hk h => by
          have h1 := O6.out k hk
          have h2 := ML3.out
          have h3 : w.heap.size ≤ W3.drew.heap.size := E3.out.size
          omega)
        have RB7 : Hid (W7.heap[bx]? = some (.cells #[.int .i64 0, .int .i64 0] 27 (0, 0))) := E7.out.heap RB6.out nmb
        have PX7 : W7.heap[px]? = some (.cells #[.int .i64 e.x.key, .int .i64 e.x.id] 27 (0, 0)) := E7.out.heap PX6.out nmp
        have OB7 : Hid (∀ k, k = m ∨ (Value.slice A6 n6 k6).ownBlock = some k → k ≠ bx) := by
          rintro k (h | h) e
          · exact nmb (by rw [← e, h])
          · have h1 := O6.out k h
            have h2 := HX.out
            have h3 := HP.out
            have h4 := BX3.out
            have h5 : bx < W3.drew.heap.size := h4
            omega
        have EE : Hid (Eff (fun k => k = m) w W7) := ((E3.out.drew.trans E6.out (fun _ h => h.elim)).mono (fun _ h => h.elim)).trans E7.out (fun k h => .inl h)
        have y0 : W7.cell? ⟨px, 0, none⟩ = some (.int .i64 e.x.key) := by simp [World.cell?, PX7]
        have y1 : W7.cell? ⟨px, 1, none⟩ = some (.int .i64 e.x.id) := by simp [World.cell?, PX7]
        have z0 : W7.cell? ⟨bx, 0, none⟩ = some (.int .i64 0) := by simp [World.cell?, RB7.out]
        have z1 : W7.cell? ⟨bx, 1, none⟩ = some (.int .i64 0) := by simp [World.cell?, RB7.out]
        have z2 : W7.frozen? ⟨bx, 0, none⟩ = false := frozen_blk RB7.out 0
        have z3 : W7.frozen? ⟨bx, 1, none⟩ = false := frozen_blk RB7.out 1
        clear PX7 hW7 nmb nmp fz6
        go_wp2_with fail
        refine bodyPost_ret (res_ct rfl _ _ bx [.int .i64 e.x.key, .int .i64 e.x.id] (by rfl) ?_ Try.underlying27 rfl (by kernel_rfl)) rfl ?_
        · refine box_range (L := [.int .i64 e.x.key, .int .i64 e.x.id]) (t := 27) ?_ 0 _ (fun j v h => by rw [Nat.zero_add]; exact h)
          exact set_cell (set_cell RB7.out 0 _) 1 _
        · have FE : Eff (fun k => k = bx) W7 ((W7.setCell ⟨bx, 0, none⟩ (.int .i64 e.x.key)).setCell ⟨bx, 1, none⟩ (.int .i64 e.x.id)) := ((Eff.refl (fun k => k = bx) W7).setCell (p := ⟨bx, 0, none⟩) (.inl rfl) _).setCell (p := ⟨bx, 1, none⟩) (.inl rfl) _
          refine .inr ⟨n, e, _, rfl, HN.out.1, HN.out.2, IsR.eff (S := fun k => k = bx) ⟨G7.out, HQ.out.mB, R7.out⟩ FE (fun k hk h => OB7.out k hk h), ?_⟩
          exact (EE.out.mono (fun k h => .inl (.inl h))).trans FE (fun k h => .inr (by rw [h, HX.out]; exact Nat.le_refl _))

    · have hl' : ¬ cap = n + 1 := fun h => hl h.symm
      as_aux_lemma =>
        have PP0 := pop_appends (n := n) (W := W3.drew) BB3.out RO3.out hnl hlen ⟨rb, (n + 1) * 4, none⟩ (fun _ => rfl) (cap - (n + 1))
        obtain ⟨v1, w5, hr5, e5, v2, w6, hr6, e6, ro6, own6, A6, n6, k6, hv6⟩ := PP0
        subst hv6
        have PP := Lib.hid (And.intro hr5 hr6)
        have E6 := Lib.hid e6
        have R6 := Lib.hid ro6
        have O6 := Lib.hid own6
        have c5 : w5.cell? ⟨m, 0, none⟩ = some (.slice (some ⟨rb, 0, none⟩) es.length cap) := e5.cell (show W3.drew.cell? _ = _ from c3) (fun h => h)
        have c6 : w6.cell? ⟨m, 0, none⟩ = some (.slice (some ⟨rb, 0, none⟩) es.length cap) := e6.cell (show W3.drew.cell? _ = _ from c3) (fun h => h)
        have G6 : Hid (w6.heap[m]? = some (.cells #[.slice (some ⟨rb, 0, none⟩) es.length cap, .int .i64 nx, .int .i64 ck] 41 (0, 0))) := e6.heap (show W3.drew.heap[m]? = _ from G3.out) (fun h => h)
        have fz6 : w6.frozen? ⟨m, 0, none⟩ = false := frozen_blk G6.out 0
        have RB6 : Hid (w6.heap[bx]? = some (.cells #[.int .i64 0, .int .i64 0] 27 (0, 0))) := e6.heap (show W3.drew.heap[bx]? = _ from RB3.out) (fun h => h)
        have PX6 : Hid (w6.heap[px]? = some (.cells #[.int .i64 e.x.key, .int .i64 e.x.id] 27 (0, 0))) := e6.heap (show W3.drew.heap[px]? = _ from PX3.out) (fun h => h)
        clear hr5 hr6 e5 e6 ro6 own6
        refine start_ (n := 20) (S := fun w' => w'.cell? ⟨m, 0, none⟩ = some (.slice (some ⟨rb, 0, none⟩) es.length cap)) (ds := [19]) #[false, false, false, false, false, false, false, false, false, false, false, false, false, false, false, false, false, false, false, false] (by kernel_rfl) rfl rfl c3 (fun hHeld => ?_)
        refine pure_ (i := 0) (N := some 19) (v := ?_) (a' := ?_) #[true, false, false, false, false, false, false, false, false, false, false, false, false, false, false, false, false, false, false, false] rfl rfl (by kernel_rfl) (fun _ _ _ h => h) (Or.inl ⟨by rfl, ?_⟩) ?_ ?_
        rotate_left
        · intro w'
          go_simp
          with_reducible rfl
        rotate_left
        · simp only [Act.put, List.setIfInBounds_toArray, List.set_cons_zero, List.set_cons_succ, i64_w, i32_w]
          rfl
        refine pure_ (i := 2) (N := some 21) (v := ?_) (a' := ?_) #[true, false, true, false, false, false, false, false, false, false, false, false, false, false, false, false, false, false, false, false] rfl rfl (by kernel_rfl) (fun _ _ _ h => h) (Or.inl ⟨by rfl, ?_⟩) ?_ ?_
        rotate_left
        · intro w'
          go_simp
          with_reducible rfl
        rotate_left
        · simp only [Act.put, List.setIfInBounds_toArray, List.set_cons_zero, List.set_cons_succ, i64_w, i32_w]
          rfl
        refine pure_ (i := 3) (N := some 22) (v := ?_) (a' := ?_) #[true, false, true, true, false, false, false, false, false, false, false, false, false, false, false, false, false, false, false, false] rfl rfl (by kernel_rfl) (fun _ _ _ h => h) (Or.inl ⟨by rfl, ?_⟩) ?_ ?_
        rotate_left
        · intro w'
          go_simp
          with_reducible rfl
        rotate_left
        · simp only [Act.put, List.setIfInBounds_toArray, List.set_cons_zero, List.set_cons_succ, i64_w, i32_w]
          rfl
        refine pure_ (i := 4) (N := some 23) (v := ?_) (a' := ?_) #[true, false, true, true, true, false, false, false, false, false, false, false, false, false, false, false, false, false, false, false] rfl rfl (by kernel_rfl) (fun _ _ _ h => h) (Or.inl ⟨by rfl, ?_⟩) ?_ ?_
        rotate_left
        · intro w'
          go_simp
          with_reducible rfl
        rotate_left
        · simp only [Act.put, List.setIfInBounds_toArray, List.set_cons_zero, List.set_cons_succ, i64_w, i32_w]
          rfl
        refine pure_ (i := 6) (N := some 25) (v := ?_) (a' := ?_) #[true, false, true, true, true, false, true, false, false, false, false, false, false, false, false, false, false, false, false, false] rfl rfl (by kernel_rfl) (fun _ _ _ h => h) (Or.inl ⟨by rfl, ?_⟩) ?_ ?_
        rotate_left
        · intro w'
          go_simp
          with_reducible rfl
        rotate_left
        · simp only [Act.put, List.setIfInBounds_toArray, List.set_cons_zero, List.set_cons_succ, i64_w, i32_w]
          rfl
        refine pure_ (i := 9) (N := some 28) (v := ?_) (a' := ?_) #[true, false, true, true, true, false, true, false, false, true, false, false, false, false, false, false, false, false, false, false] rfl rfl (by kernel_rfl) (fun _ _ _ h => h) (Or.inl ⟨by rfl, ?_⟩) ?_ ?_
        rotate_left
        · intro w'
          go_simp
          with_reducible rfl
        rotate_left
        · simp only [Act.put, List.setIfInBounds_toArray, List.set_cons_zero, List.set_cons_succ, i64_w, i32_w]
          rfl
        refine pure_ (i := 10) (N := some 29) (v := ?_) (a' := ?_) #[true, false, true, true, true, false, true, false, false, true, true, false, false, false, false, false, false, false, false, false] rfl rfl (by kernel_rfl) (fun _ _ _ h => h) (Or.inl ⟨by rfl, ?_⟩) ?_ ?_
        rotate_left
        · intro w'
          go_simp
          with_reducible rfl
        rotate_left
        · simp only [Act.put, List.setIfInBounds_toArray, List.set_cons_zero, List.set_cons_succ, i64_w, i32_w]
          rfl
        refine pure_ (i := 11) (N := some 30) (v := ?_) (a' := ?_) #[true, false, true, true, true, false, true, false, false, true, true, true, false, false, false, false, false, false, false, false] rfl rfl (by kernel_rfl) (fun _ _ _ h => h) (Or.inl ⟨by rfl, ?_⟩) ?_ ?_
        rotate_left
        · intro w'
          go_simp
          with_reducible rfl
        rotate_left
        · simp only [Act.put, List.setIfInBounds_toArray, List.set_cons_zero, List.set_cons_succ, i64_w, i32_w]
          rfl
        refine pure_ (i := 13) (N := some 32) (v := ?_) (a' := ?_) #[true, false, true, true, true, false, true, false, false, true, true, true, false, true, false, false, false, false, false, false] rfl rfl (by kernel_rfl) (fun _ _ _ h => h) (Or.inl ⟨by rfl, ?_⟩) ?_ ?_
        rotate_left
        · intro w'
          go_simp
          with_reducible rfl
        rotate_left
        · simp only [Act.put, List.setIfInBounds_toArray, List.set_cons_zero, List.set_cons_succ, i64_w, i32_w]
          rfl
        refine pure_ (i := 14) (N := some 33) (v := ?_) (a' := ?_) #[true, false, true, true, true, false, true, false, false, true, true, true, false, true, true, false, false, false, false, false] rfl rfl (by kernel_rfl) (fun _ _ _ h => h) (Or.inl ⟨by rfl, ?_⟩) ?_ ?_
        rotate_left
        · intro w'
          go_simp
          with_reducible rfl
        rotate_left
        · simp only [Act.put, List.setIfInBounds_toArray, List.set_cons_zero, List.set_cons_succ, i64_w, i32_w]
          rfl
        refine take_ (i := 5) (N := some 24) (v := ?_) (a' := ?_) #[true, false, true, true, true, true, true, false, false, true, true, true, false, true, true, false, false, false, false, false] rfl rfl (by kernel_rfl) (fun _ _ _ h => h) (Or.inl ⟨by rfl, ?_⟩) hHeld ?_ ?_
        rotate_left
        · rintro w' s0
          go_simp
          with_reducible rfl
        rotate_left
        · simp only [Act.put, List.setIfInBounds_toArray, List.set_cons_zero, List.set_cons_succ, i64_w, i32_w]
          rfl
        refine pure_ (i := 7) (N := some 26) (v := ?_) (a' := ?_) #[true, false, true, true, true, true, true, true, false, true, true, true, false, true, true, false, false, false, false, false] rfl rfl (by kernel_rfl) (fun _ _ _ h => h) (Or.inl ⟨by rfl, ?_⟩) ?_ ?_
        rotate_left
        · intro w'
          go_simp
          with_reducible rfl
        rotate_left
        · simp only [Act.put, List.setIfInBounds_toArray, List.set_cons_zero, List.set_cons_succ, i64_w, i32_w]
          rfl
        refine take_ (i := 12) (N := some 31) (v := ?_) (a' := ?_) #[true, false, true, true, true, true, true, true, false, true, true, true, true, true, true, false, false, false, false, false] rfl rfl (by kernel_rfl) (fun _ _ _ h => h) (Or.inl ⟨by rfl, ?_⟩) hHeld ?_ ?_
        rotate_left
        · rintro w' s0
          go_simp
          with_reducible rfl
        rotate_left
        · simp only [Act.put, List.setIfInBounds_toArray, List.set_cons_zero, List.set_cons_succ, i64_w, i32_w]
          rfl
        refine pure_ (i := 15) (N := some 34) (v := ?_) (a' := ?_) #[true, false, true, true, true, true, true, true, false, true, true, true, true, true, true, true, false, false, false, false] rfl rfl (by kernel_rfl) (fun _ _ _ h => h) (Or.inl ⟨by rfl, ?_⟩) ?_ ?_
        rotate_left
        · intro w'
          go_simp
          with_reducible rfl
        rotate_left
        · simp only [Act.put, List.setIfInBounds_toArray, List.set_cons_zero, List.set_cons_succ, i64_w, i32_w]
          rfl
        refine one_ (i := 1) (N := some 20) #[true, true, true, true, true, true, true, true, false, true, true, true, true, true, true, true, false, false, false, false] rfl rfl (by kernel_rfl) (by decide) (fun K hK => ?_)
        refine value_ (w1 := ?_) (v := ?_) (by rfl) rfl ?_ ?_
        rotate_left 2
        · go_simp
          constructor
          · rfl
          · rfl
        refine hK.out _ _ ((eff_alloc _ _).cell hHeld (fun h => h)) (fun hHeld => ?_)
        clear hK K
        refine norm_ (a' := ?_) ?_ ?_
        rotate_left
        · show Act.put _ (some 20) _ = _
          simp only [Act.put, List.setIfInBounds_toArray, List.set_cons_zero, List.set_cons_succ, i64_w, i32_w]
          rfl
        refine one_ (i := 8) (N := some 27) #[true, true, true, true, true, true, true, true, true, true, true, true, true, true, true, true, false, false, false, false] rfl rfl (by kernel_rfl) (by decide) (fun K hK => ?_)
        refine value_ (w1 := w5) (v := v1) (by rfl) rfl (exec_append rfl (by rfl) (by rfl) PP.out.1) ?_
        refine hK.out _ _ c5 (fun hHeld => ?_)
        clear hK K
        refine norm_ (a' := ?_) ?_ ?_
        rotate_left
        · show Act.put _ (some 27) _ = _
          simp only [Act.put, List.setIfInBounds_toArray, List.set_cons_zero, List.set_cons_succ, i64_w, i32_w]
          rfl
        refine one_ (i := 16) (N := some 35) #[true, true, true, true, true, true, true, true, true, true, true, true, true, true, true, true, true, false, false, false] rfl rfl (by kernel_rfl) (by decide) (fun K hK => ?_)
        refine value_ (w1 := w6) (v := .slice A6 n6 k6) (by rfl) rfl (exec_append rfl (by rfl) (by rfl) PP.out.2) ?_
        refine hK.out _ _ c6 (fun hHeld => ?_)
        clear hK K
        refine norm_ (a' := ?_) ?_ ?_
        rotate_left
        · show Act.put _ (some 35) _ = _
          simp only [Act.put, List.setIfInBounds_toArray, List.set_cons_zero, List.set_cons_succ, i64_w, i32_w]
          rfl
        refine pure_ (i := 17) (N := some 36) (v := ?_) (a' := ?_) #[true, true, true, true, true, true, true, true, true, true, true, true, true, true, true, true, true, true, false, false] rfl rfl (by kernel_rfl) (fun _ _ _ h => h) (Or.inl ⟨by rfl, ?_⟩) ?_ ?_
        rotate_left
        · intro w'
          go_simp
          with_reducible rfl
        rotate_left
        · simp only [Act.put, List.setIfInBounds_toArray, List.set_cons_zero, List.set_cons_succ, i64_w, i32_w]
          rfl
        refine pure_ (i := 18) (N := some 37) (v := ?_) (a' := ?_) #[true, true, true, true, true, true, true, true, true, true, true, true, true, true, true, true, true, true, true, false] rfl rfl (by kernel_rfl) (fun _ _ _ h => h) (Or.inl ⟨by rfl, ?_⟩) ?_ ?_
        rotate_left
        · intro w'
          go_simp
          with_reducible rfl
        rotate_left
        · simp only [Act.put, List.setIfInBounds_toArray, List.set_cons_zero, List.set_cons_succ, i64_w, i32_w]
          rfl
        refine last_ (i := 19) (N := none) #[true, true, true, true, true, true, true, true, true, true, true, true, true, true, true, true, true, true, true, true] rfl rfl (by kernel_rfl) (by decide) (fun K hK => ?_)
        refine skip_ (w1 := w6.setCell ⟨m, 0, none⟩ (.slice A6 n6 k6)) (by rfl) rfl (run_u (run_storeAt_one (by kernel_rfl) rfl (o := .slice (some ⟨rb, 0, none⟩) es.length cap) hHeld fz6)) ?_
        refine hK.out _ _ ?_
        clear hK K
        refine done_ (by kernel_rfl) ?_
        clear hHeld c5 c6 c3
        obtain ⟨W7, hW7⟩ : ∃ W, W = w6.setCell ⟨m, 0, none⟩ (.slice A6 n6 k6) := ⟨_, rfl⟩
        rw [← hW7]
        have nmb : ¬ bx = m := fun h => by have h1 := ML3.out; have h2 := HX.out; omega
        have nmp : ¬ px = m := fun h => by have h1 := ML3.out; have h2 := HP.out; omega
        have E7 : Hid (Eff (fun k => k = m) w6 W7) := by rw [hW7]; exact eff_setCell w6 m 0 _
        have G7 : Hid (W7.heap[m]? = some (.cells #[.slice A6 n6 k6, .int .i64 nx, .int .i64 ck] 41 (0, 0))) := by
          show _ = _
          rw [hW7]
          exact set_cell G6.out 0 _
        have R7 : Hid (Row 98 B W7 (.slice A6 n6 k6) (es.eraseIdx n)) := R6.out.eff E7.out (fun k hk h => by
          have h1 := O6.out k hk
          have h2 := ML3.out
          have h3 : w.heap.size ≤ W3.drew.heap.size := E3.out.size
          omega)
        have RB7 : Hid (W7.heap[bx]? = some (.cells #[.int .i64 0, .int .i64 0] 27 (0, 0))) := E7.out.heap RB6.out nmb
        have PX7 : W7.heap[px]? = some (.cells #[.int .i64 e.x.key, .int .i64 e.x.id] 27 (0, 0)) := E7.out.heap PX6.out nmp
        have OB7 : Hid (∀ k, k = m ∨ (Value.slice A6 n6 k6).ownBlock = some k → k ≠ bx) := by
          rintro k (h | h) e
          · exact nmb (by rw [← e, h])
          · have h1 := O6.out k h
            have h2 := HX.out
            have h3 := HP.out
            have h4 := BX3.out
            have h5 : bx < W3.drew.heap.size := h4
            omega
        have EE : Hid (Eff (fun k => k = m) w W7) := ((E3.out.drew.trans E6.out (fun _ h => h.elim)).mono (fun _ h => h.elim)).trans E7.out (fun k h => .inl h)
        have y0 : W7.cell? ⟨px, 0, none⟩ = some (.int .i64 e.x.key) := by simp [World.cell?, PX7]
        have y1 : W7.cell? ⟨px, 1, none⟩ = some (.int .i64 e.x.id) := by simp [World.cell?, PX7]
        have z0 : W7.cell? ⟨bx, 0, none⟩ = some (.int .i64 0) := by simp [World.cell?, RB7.out]
        have z1 : W7.cell? ⟨bx, 1, none⟩ = some (.int .i64 0) := by simp [World.cell?, RB7.out]
        have z2 : W7.frozen? ⟨bx, 0, none⟩ = false := frozen_blk RB7.out 0
        have z3 : W7.frozen? ⟨bx, 1, none⟩ = false := frozen_blk RB7.out 1
        clear PX7 hW7 nmb nmp fz6
        go_wp2_with fail
        refine bodyPost_ret (res_ct rfl _ _ bx [.int .i64 e.x.key, .int .i64 e.x.id] (by rfl) ?_ Try.underlying27 rfl (by kernel_rfl)) rfl ?_
        · refine box_range (L := [.int .i64 e.x.key, .int .i64 e.x.id]) (t := 27) ?_ 0 _ (fun j v h => by rw [Nat.zero_add]; exact h)
          exact set_cell (set_cell RB7.out 0 _) 1 _
        · have FE : Eff (fun k => k = bx) W7 ((W7.setCell ⟨bx, 0, none⟩ (.int .i64 e.x.key)).setCell ⟨bx, 1, none⟩ (.int .i64 e.x.id)) := ((Eff.refl (fun k => k = bx) W7).setCell (p := ⟨bx, 0, none⟩) (.inl rfl) _).setCell (p := ⟨bx, 1, none⟩) (.inl rfl) _
          refine .inr ⟨n, e, _, rfl, HN.out.1, HN.out.2, IsR.eff (S := fun k => k = bx) ⟨G7.out, HQ.out.mB, R7.out⟩ FE (fun k hk h => OB7.out k hk h), ?_⟩
          exact (EE.out.mono (fun k h => .inl (.inl h))).trans FE (fun k h => .inr (by rw [h, HX.out]; exact Nat.le_refl _))

end Go.Proofs.Ytepfbhigeghjjaa.Q
