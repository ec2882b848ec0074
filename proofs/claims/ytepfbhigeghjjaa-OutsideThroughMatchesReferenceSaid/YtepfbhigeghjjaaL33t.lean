/- OutsideThroughMatchesReference: the walk. -/
import Derived.Test.YtepfbhigeghjjaaL33m
namespace Go.Proofs.Ytepfbhigeghjjaa.Q
open Go.RowKit Go.Proofs.YtepfbhigeghjjaaW.PrintLast
set_option linter.unusedVariables false
set_option linter.unusedSimpArgs false

set_option maxHeartbeats 2000000 in
set_option maxRecDepth 100000 in
theorem t21_r5 {hb len cap mA mB : Nat} {n root : Int} {A : Option Addr} {QA QB : (Nat → Value) → Prop} {Q : Exit → Act → World → Prop} (hp : ∀ c (a : Act) (i : Nat) (v : Value) w, Q (.panic c) (a.put (some i) v) w → Q (.panic c) a w)
    {u0 u3 u4 u5 u6 u7 u8 u9 u10 u11 u12 u13 u14 u15 u16 u17 u18 u19 u20 u21 u22 u23 u24 u25 : Value} {wr : World} (HR : wr.rangeAt hb 0 [.int .i64 n, .slice A len cap]) (C5 : Hid (∀ W : World, Below wr.heap.size wr W → Calls Try.prog 45 #[.agg #[.int .i64 n, .slice A len cap], .int .i64 root] W (SPost 3 mA QA W))) (C6 : Hid (∀ W : World, Below wr.heap.size wr W → Calls Try.prog 58 #[.agg #[.int .i64 n, .slice A len cap], .int .i64 root] W (SPost 3 mA QA W))) (C7 : Hid (∀ (W : World) (b5 b6 : Nat) (g5 g6 : Nat → Value), Below wr.heap.size wr W → QA g5 → QA g6 → W.rowIs b5 3 mA g5 → W.rowIs b6 3 mA g6 → Calls Try.prog 53 #[.slice (some ⟨b5, 0, none⟩) mA mA, .slice (some ⟨b6, 0, none⟩) mA mA] W fun r w' => r = .returned (.bool true) ∧ Below W.heap.size W w')) (C8 : Hid (∀ W : World, Below wr.heap.size wr W → Calls Try.prog 59 #[.agg #[.int .i64 n, .slice A len cap], .int .i64 root] W (SPost 3 mB QB W))) (C9 : Hid (∀ W : World, Below wr.heap.size wr W → Calls Try.prog 60 #[.agg #[.int .i64 n, .slice A len cap], .int .i64 root] W (SPost 3 mB QB W))) (C10 : Hid (∀ (W : World) (b5 b6 : Nat) (g5 g6 : Nat → Value), Below wr.heap.size wr W → QB g5 → QB g6 → W.rowIs b5 3 mB g5 → W.rowIs b6 3 mB g6 → Calls Try.prog 53 #[.slice (some ⟨b5, 0, none⟩) mB mB, .slice (some ⟨b6, 0, none⟩) mB mB] W fun r w' => r = .returned (.bool true) ∧ Below W.heap.size W w'))
    (hQ : ∀ (w8 : World), Below wr.heap.size wr w8 → ∀ (t10 t11 t12 t13 t14 t15 t16 t17 t18 t19 t20 t21 t22 t23 t24 t25 : Value), Q .normal { tmps := #[u0, .int .i64 root, .pointer (some ⟨hb, 0, none⟩), u3, .bool true, u5, u6, u7, u8, u9, t10, t11, t12, t13, t14, t15, t16, t17, t18, t19, t20, t21, t22, t23, t24, t25], defers := [] } (w8)) :
    Code.wp Try.prog (reg (Try.f21) 5) Q { tmps := #[u0, .int .i64 root, .pointer (some ⟨hb, 0, none⟩), u3, u4, u5, u6, u7, u8, u9, u10, u11, u12, u13, u14, u15, u16, u17, u18, u19, u20, u21, u22, u23, u24, u25], defers := [] } wr := by
  have HQ := Lib.hid hQ
  have HP := Lib.hid hp
  clear hQ hp
  refine start_ (n := 17) (S := fun w' => w'.rangeAt hb 0 [.int .i64 n, .slice A len cap]) (ds := []) #[false, false, false, false, false, false, false, false, false, false, false, false, false, false, false, false, false] (by kernel_rfl) rfl rfl HR (fun hHeld => ?_)
  refine pure_ (i := 1) (N := some 11) (v := ?_) (a' := ?_) #[false, true, false, false, false, false, false, false, false, false, false, false, false, false, false, false, false] rfl rfl (by kernel_rfl) (fun c a w h => HP.out c a _ _ w h) (Or.inl ⟨by rfl, ?_⟩) ?_ ?_
  rotate_left
  · intro w'
    go_simp
    with_reducible rfl
  rotate_left
  · simp only [Act.put, List.setIfInBounds_toArray, List.set_cons_zero, List.set_cons_succ, i64_w, i32_w]
    rfl
  refine pure_ (i := 4) (N := some 14) (v := ?_) (a' := ?_) #[false, true, false, false, true, false, false, false, false, false, false, false, false, false, false, false, false] rfl rfl (by kernel_rfl) (fun c a w h => HP.out c a _ _ w h) (Or.inl ⟨by rfl, ?_⟩) ?_ ?_
  rotate_left
  · intro w'
    go_simp
    with_reducible rfl
  rotate_left
  · simp only [Act.put, List.setIfInBounds_toArray, List.set_cons_zero, List.set_cons_succ, i64_w, i32_w]
    rfl
  refine take_ (i := 0) (N := some 10) (a' := ?_) #[true, true, false, false, true, false, false, false, false, false, false, false, false, false, false, false, false] rfl rfl (by kernel_rfl) (fun c a w h => HP.out c a _ _ w h) (yieldsIf_load_mid (by rfl) 48 _ rfl hb 0 (by rfl) [.int .i64 n, .slice A len cap] _ (fun w' h => h) Try.underlying48 rfl (by kernel_rfl)) hHeld ?_ ?_
  rotate_left
  · simp only [Act.put, List.setIfInBounds_toArray, List.set_cons_zero, List.set_cons_succ, i64_w, i32_w]
    rfl
  refine take_ (i := 3) (N := some 13) (a' := ?_) #[true, true, false, true, true, false, false, false, false, false, false, false, false, false, false, false, false] rfl rfl (by kernel_rfl) (fun c a w h => HP.out c a _ _ w h) (yieldsIf_load_mid (by rfl) 48 _ rfl hb 0 (by rfl) [.int .i64 n, .slice A len cap] _ (fun w' h => h) Try.underlying48 rfl (by kernel_rfl)) hHeld ?_ ?_
  rotate_left
  · simp only [Act.put, List.setIfInBounds_toArray, List.set_cons_zero, List.set_cons_succ, i64_w, i32_w]
    rfl
  refine one_ (i := 2) (N := some 12) #[true, true, true, true, true, false, false, false, false, false, false, false, false, false, false, false, false] rfl rfl (by kernel_rfl) (by decide) (fun K hK => ?_)
  refine goesV_ Try.func45 (by kernel_rfl) rfl #[.agg #[.int .i64 n, .slice A len cap], .int .i64 root] (by rfl) rfl rfl (by rfl) (by simp only [List.map_toArray, List.map_cons, List.map_nil]; rfl) ?_
  with_reducible refine (C5.out _ (Below.refl wr.heap.size wr).drew).mono ?_
  rintro r w5 ⟨b5, g5, rfl, hq5, hr5, bb5⟩
  have BB5 : Hid (Below wr.heap.size wr w5) := (Below.refl _ _).drew.trans bb5
  have e5 := Eff.of_below bb5 (fun _ => False)
  have HR5 := Lib.hid (And.intro hq5 hr5)
  clear bb5 hq5 hr5
  refine ⟨_, rfl, ?_⟩
  refine hK.out _ _ (rangeAt_eff hHeld e5 (fun h => h)) (fun hHeld => ?_)
  clear hK K
  refine norm_ (a' := ?_) ?_ ?_
  rotate_left
  · show Act.put _ (some 12) _ = _
    simp only [Act.put, List.setIfInBounds_toArray, List.set_cons_zero, List.set_cons_succ, i64_w, i32_w]
    rfl
  refine one_ (i := 5) (N := some 15) #[true, true, true, true, true, true, false, false, false, false, false, false, false, false, false, false, false] rfl rfl (by kernel_rfl) (by decide) (fun K hK => ?_)
  refine goesV_ Try.func58 (by kernel_rfl) rfl #[.agg #[.int .i64 n, .slice A len cap], .int .i64 root] (by rfl) rfl rfl (by rfl) (by simp only [List.map_toArray, List.map_cons, List.map_nil]; rfl) ?_
  with_reducible refine (C6.out _ BB5.out).mono ?_
  rintro r w6 ⟨b6, g6, rfl, hq6, hr6, bb6⟩
  have BB6 : Hid (Below wr.heap.size wr w6) := BB5.out.trans (bb6.mono BB5.out.size)
  have e6 := Eff.of_below bb6 (fun _ => False)
  have HR6 := Lib.hid (And.intro (And.intro HR5.out.1 (row_below HR5.out.2 bb6)) (And.intro hq6 hr6))
  clear bb6 hq6 hr6
  refine ⟨_, rfl, ?_⟩
  refine hK.out _ _ (rangeAt_eff hHeld e6 (fun h => h)) (fun hHeld => ?_)
  clear hK K
  refine norm_ (a' := ?_) ?_ ?_
  rotate_left
  · show Act.put _ (some 15) _ = _
    simp only [Act.put, List.setIfInBounds_toArray, List.set_cons_zero, List.set_cons_succ, i64_w, i32_w]
    rfl
  refine one_ (i := 6) (N := some 16) #[true, true, true, true, true, true, true, false, false, false, false, false, false, false, false, false, false] rfl rfl (by kernel_rfl) (by decide) (fun K hK => ?_)
  refine goesV_ Try.func53 (by kernel_rfl) rfl #[.slice (some ⟨b5, 0, none⟩) mA mA, .slice (some ⟨b6, 0, none⟩) mA mA] (by rfl) rfl rfl (by rfl) (by simp only [List.map_toArray, List.map_cons, List.map_nil]; rfl) ?_
  with_reducible refine (C7.out _ _ _ _ _ BB6.out HR6.out.1.1 HR6.out.2.1 HR6.out.1.2 HR6.out.2.2).mono ?_
  rintro r w7 ⟨rfl, bb7⟩
  have BB7 : Hid (Below wr.heap.size wr w7) := BB6.out.trans (bb7.mono BB6.out.size)
  have e7 := Eff.of_below bb7 (fun _ => False)
  clear bb7
  refine ⟨_, rfl, ?_⟩
  refine hK.out _ _ (rangeAt_eff hHeld e7 (fun h => h)) (fun hHeld => ?_)
  clear hK K
  refine norm_ (a' := ?_) ?_ ?_
  rotate_left
  · show Act.put _ (some 16) _ = _
    simp only [Act.put, List.setIfInBounds_toArray, List.set_cons_zero, List.set_cons_succ, i64_w, i32_w]
    rfl
  refine pure_ (i := 7) (N := some 17) (v := ?_) (a' := ?_) #[true, true, true, true, true, true, true, true, false, false, false, false, false, false, false, false, false] rfl rfl (by kernel_rfl) (fun c a w h => HP.out c a _ _ w h) (Or.inl ⟨by rfl, ?_⟩) ?_ ?_
  rotate_left
  · intro w'
    go_simp
    with_reducible rfl
  rotate_left
  · simp only [Act.put, List.setIfInBounds_toArray, List.set_cons_zero, List.set_cons_succ, i64_w, i32_w]
    rfl
  refine pure_ (i := 9) (N := some 19) (v := ?_) (a' := ?_) #[true, true, true, true, true, true, true, true, false, true, false, false, false, false, false, false, false] rfl rfl (by kernel_rfl) (fun c a w h => HP.out c a _ _ w h) (Or.inl ⟨by rfl, ?_⟩) ?_ ?_
  rotate_left
  · intro w'
    go_simp
    with_reducible rfl
  rotate_left
  · simp only [Act.put, List.setIfInBounds_toArray, List.set_cons_zero, List.set_cons_succ, i64_w, i32_w]
    rfl
  refine pure_ (i := 12) (N := some 22) (v := ?_) (a' := ?_) #[true, true, true, true, true, true, true, true, false, true, false, false, true, false, false, false, false] rfl rfl (by kernel_rfl) (fun c a w h => HP.out c a _ _ w h) (Or.inl ⟨by rfl, ?_⟩) ?_ ?_
  rotate_left
  · intro w'
    go_simp
    with_reducible rfl
  rotate_left
  · simp only [Act.put, List.setIfInBounds_toArray, List.set_cons_zero, List.set_cons_succ, i64_w, i32_w]
    rfl
  refine take_ (i := 8) (N := some 18) (a' := ?_) #[true, true, true, true, true, true, true, true, true, true, false, false, true, false, false, false, false] rfl rfl (by kernel_rfl) (fun c a w h => HP.out c a _ _ w h) (yieldsIf_load_mid (by rfl) 48 _ rfl hb 0 (by rfl) [.int .i64 n, .slice A len cap] _ (fun w' h => h) Try.underlying48 rfl (by kernel_rfl)) hHeld ?_ ?_
  rotate_left
  · simp only [Act.put, List.setIfInBounds_toArray, List.set_cons_zero, List.set_cons_succ, i64_w, i32_w]
    rfl
  refine take_ (i := 11) (N := some 21) (a' := ?_) #[true, true, true, true, true, true, true, true, true, true, false, true, true, false, false, false, false] rfl rfl (by kernel_rfl) (fun c a w h => HP.out c a _ _ w h) (yieldsIf_load_mid (by rfl) 48 _ rfl hb 0 (by rfl) [.int .i64 n, .slice A len cap] _ (fun w' h => h) Try.underlying48 rfl (by kernel_rfl)) hHeld ?_ ?_
  rotate_left
  · simp only [Act.put, List.setIfInBounds_toArray, List.set_cons_zero, List.set_cons_succ, i64_w, i32_w]
    rfl
  refine one_ (i := 10) (N := some 20) #[true, true, true, true, true, true, true, true, true, true, true, true, true, false, false, false, false] rfl rfl (by kernel_rfl) (by decide) (fun K hK => ?_)
  refine goesV_ Try.func59 (by kernel_rfl) rfl #[.agg #[.int .i64 n, .slice A len cap], .int .i64 root] (by rfl) rfl rfl (by rfl) (by simp only [List.map_toArray, List.map_cons, List.map_nil]; rfl) ?_
  with_reducible refine (C8.out _ BB7.out).mono ?_
  rintro r w8 ⟨b8, g8, rfl, hq8, hr8, bb8⟩
  have BB8 : Hid (Below wr.heap.size wr w8) := BB7.out.trans (bb8.mono BB7.out.size)
  have e8 := Eff.of_below bb8 (fun _ => False)
  have HR8 := Lib.hid (And.intro hq8 hr8)
  clear bb8 hq8 hr8
  refine ⟨_, rfl, ?_⟩
  refine hK.out _ _ (rangeAt_eff hHeld e8 (fun h => h)) (fun hHeld => ?_)
  clear hK K
  refine norm_ (a' := ?_) ?_ ?_
  rotate_left
  · show Act.put _ (some 20) _ = _
    simp only [Act.put, List.setIfInBounds_toArray, List.set_cons_zero, List.set_cons_succ, i64_w, i32_w]
    rfl
  refine one_ (i := 13) (N := some 23) #[true, true, true, true, true, true, true, true, true, true, true, true, true, true, false, false, false] rfl rfl (by kernel_rfl) (by decide) (fun K hK => ?_)
  refine goesV_ Try.func60 (by kernel_rfl) rfl #[.agg #[.int .i64 n, .slice A len cap], .int .i64 root] (by rfl) rfl rfl (by rfl) (by simp only [List.map_toArray, List.map_cons, List.map_nil]; rfl) ?_
  with_reducible refine (C9.out _ BB8.out).mono ?_
  rintro r w9 ⟨b9, g9, rfl, hq9, hr9, bb9⟩
  have BB9 : Hid (Below wr.heap.size wr w9) := BB8.out.trans (bb9.mono BB8.out.size)
  have e9 := Eff.of_below bb9 (fun _ => False)
  have HR9 := Lib.hid (And.intro (And.intro HR8.out.1 (row_below HR8.out.2 bb9)) (And.intro hq9 hr9))
  clear bb9 hq9 hr9
  refine ⟨_, rfl, ?_⟩
  refine hK.out _ _ (rangeAt_eff hHeld e9 (fun h => h)) (fun hHeld => ?_)
  clear hK K
  refine norm_ (a' := ?_) ?_ ?_
  rotate_left
  · show Act.put _ (some 23) _ = _
    simp only [Act.put, List.setIfInBounds_toArray, List.set_cons_zero, List.set_cons_succ, i64_w, i32_w]
    rfl
  refine one_ (i := 14) (N := some 24) #[true, true, true, true, true, true, true, true, true, true, true, true, true, true, true, false, false] rfl rfl (by kernel_rfl) (by decide) (fun K hK => ?_)
  refine goesV_ Try.func53 (by kernel_rfl) rfl #[.slice (some ⟨b8, 0, none⟩) mB mB, .slice (some ⟨b9, 0, none⟩) mB mB] (by rfl) rfl rfl (by rfl) (by simp only [List.map_toArray, List.map_cons, List.map_nil]; rfl) ?_
  with_reducible refine (C10.out _ _ _ _ _ BB9.out HR9.out.1.1 HR9.out.2.1 HR9.out.1.2 HR9.out.2.2).mono ?_
  rintro r w10 ⟨rfl, bb10⟩
  have BB10 : Hid (Below wr.heap.size wr w10) := BB9.out.trans (bb10.mono BB9.out.size)
  have e10 := Eff.of_below bb10 (fun _ => False)
  clear bb10
  refine ⟨_, rfl, ?_⟩
  refine hK.out _ _ (rangeAt_eff hHeld e10 (fun h => h)) (fun hHeld => ?_)
  clear hK K
  refine norm_ (a' := ?_) ?_ ?_
  rotate_left
  · show Act.put _ (some 24) _ = _
    simp only [Act.put, List.setIfInBounds_toArray, List.set_cons_zero, List.set_cons_succ, i64_w, i32_w]
    rfl
  refine pure_ (i := 15) (N := some 25) (v := ?_) (a' := ?_) #[true, true, true, true, true, true, true, true, true, true, true, true, true, true, true, true, false] rfl rfl (by kernel_rfl) (fun c a w h => HP.out c a _ _ w h) (Or.inl ⟨by rfl, ?_⟩) ?_ ?_
  rotate_left
  · intro w'
    go_simp
    with_reducible rfl
  rotate_left
  · simp only [Act.put, List.setIfInBounds_toArray, List.set_cons_zero, List.set_cons_succ, i64_w, i32_w]
    rfl
  refine pure_ (i := 16) (N := some 4) (v := ?_) (a' := ?_) #[true, true, true, true, true, true, true, true, true, true, true, true, true, true, true, true, true] rfl rfl (by kernel_rfl) (fun c a w h => HP.out c a _ _ w h) (Or.inl ⟨by rfl, ?_⟩) ?_ ?_
  rotate_left
  · intro w'
    go_simp
    with_reducible rfl
  rotate_left
  · simp only [Act.put, List.setIfInBounds_toArray, List.set_cons_zero, List.set_cons_succ, i64_w, i32_w]
    rfl
  refine done_ (by kernel_rfl) ?_
  exact HQ.out _ BB10.out _ _ _ _ _ _ _ _ _ _ _ _ _ _ _ _

set_option maxHeartbeats 8000000 in
set_option maxRecDepth 100000 in
theorem through_walk (n : Int) (A : Option Addr) (cap : Nat) (es : List REd) (root : Int) (w : World) (hA : EdsIn w A es) : Calls Try.prog 21 #[.agg #[.int .i64 n, .slice A es.length cap], .int .i64 root] w (TruePost w) := by
  have HA := Lib.hid hA
  clear hA
  obtain ⟨W1, hW1⟩ : ∃ W, W = w.alloc (.cells #[.int .i64 n, .slice A es.length cap] 48) := ⟨_, rfl⟩
  obtain ⟨hb, hhb⟩ : ∃ b, b = w.heap.size := ⟨_, rfl⟩
  have B1 : Hid (Below w.heap.size w W1) := by rw [hW1]; exact (Below.refl _ _).alloc (Nat.le_refl _) _
  have H1 : Hid (HBZ W1 hb n es.length cap A) := by show W1.heap[hb]? = _; rw [hW1, hhb]; exact heap_alloc_new w _
  have HW1 := Lib.hid (And.intro hW1 hhb)
  have AW := Lib.hid (awake38 W1)
  clear hW1 hhb
  go_enter Try.func21, Try.ntmps21
  go_wp2_with fail
  rw [← HW1.out.1, ← HW1.out.2]
  with_reducible refine AW.out.mono ?_
  rintro r w2 ⟨rfl, b2⟩
  have B2 : Hid (Below w.heap.size w w2) := B1.out.trans (b2.mono B1.out.size)
  have H2 := Lib.hid (H1.out.bel b2)
  have CS := Lib.hid (small39 (cap := cap) n es (HA.out.below B2.out))
  clear b2 H1 B1 HW1 AW
  obtain ⟨y0, y1⟩ := H2.out.c
  go_wp2_with fail
  with_reducible refine CS.out.mono ?_
  rintro r w3 ⟨b, rfl, hb3, b3⟩
  have B3 : Hid (Below w.heap.size w w3) := B2.out.trans (b3.mono B2.out.size)
  have H3 := Lib.hid (H2.out.bel b3)
  have SM := Lib.hid hb3
  clear b3 hb3 y0 y1 H2 B2 CS
  obtain ⟨y0, y1⟩ := H3.out.c
  cases b with
  | false =>
    go_wp2_with fail
    go_ret
    exact ⟨rfl, B3.out⟩
  | true =>
    obtain ⟨m, v0, f0, hm⟩ := SM.out rfl
    obtain ⟨⟨rfl, h1, h30, h60, hok⟩, hs0, hz0⟩ := hm
    have HOK := Lib.hid hok
    have HEE : Hid (∀ e ∈ es.map REd.plain, K.OkE m e) := edges_ok hok
    have HZ0 := Lib.hid (And.intro hs0 hz0)
    clear SM hok hs0 hz0
    have C5 : Hid (∀ W : World, Below w3.heap.size w3 W → Calls Try.prog 45 #[.agg #[.int .i64 m, .slice A es.length cap], .int .i64 root] W (SPost 3 m (RowQ (es.map REd.plain) m root fThr) W)) := fun W hW => (through45 root (HA.out.below (B3.out.trans (hW.mono B3.out.size))) HOK.out h30 h60).mono (fun _ _ h => RPost.s h)
    have C6 : Hid (∀ W : World, Below w3.heap.size w3 W → Calls Try.prog 58 #[.agg #[.int .i64 m, .slice A es.length cap], .int .i64 root] W (SPost 3 m (RowQ (es.map REd.plain) m root fThr) W)) := fun W hW => (through58 root (HA.out.below (B3.out.trans (hW.mono B3.out.size))) HOK.out h30 h60).mono (fun _ _ h => RPost.s h)
    have C8 : Hid (∀ W : World, Below w3.heap.size w3 W → Calls Try.prog 59 #[.agg #[.int .i64 m, .slice A es.length cap], .int .i64 root] W (SPost 3 es.length (RowQ (es.map REd.plain) m root (fEdge (es.map REd.plain))) W)) := fun W hW => (edge59 root (HA.out.below (B3.out.trans (hW.mono B3.out.size))) HOK.out h30 h60).mono (fun _ _ h => RPost.s h)
    have C9 : Hid (∀ W : World, Below w3.heap.size w3 W → Calls Try.prog 60 #[.agg #[.int .i64 m, .slice A es.length cap], .int .i64 root] W (SPost 3 es.length (RowQ (es.map REd.plain) m root (fEdge (es.map REd.plain))) W)) := fun W hW => (edge60 root (HA.out.below (B3.out.trans (hW.mono B3.out.size))) HOK.out h30 h60).mono (fun _ _ h => RPost.s h)
    have C7 : Hid (∀ (W : World) (b5 b6 : Nat) (g5 g6 : Nat → Value), Below w3.heap.size w3 W → RowQ (es.map REd.plain) m root fThr g5 → RowQ (es.map REd.plain) m root fThr g6 → W.rowIs b5 3 m g5 → W.rowIs b6 3 m g6 → Calls Try.prog 53 #[.slice (some ⟨b5, 0, none⟩) m m, .slice (some ⟨b6, 0, none⟩) m m] W fun r w' => r = .returned (.bool true) ∧ Below W.heap.size W w') := fun W b5 b6 g5 g6 _ q5 q6 r5 r6 => same_rows HEE.out fThr_congr (by omega) W b5 b6 g5 g6 q5 q6 r5 r6
    have C10 : Hid (∀ (W : World) (b5 b6 : Nat) (g5 g6 : Nat → Value), Below w3.heap.size w3 W → RowQ (es.map REd.plain) m root (fEdge (es.map REd.plain)) g5 → RowQ (es.map REd.plain) m root (fEdge (es.map REd.plain)) g6 → W.rowIs b5 3 es.length g5 → W.rowIs b6 3 es.length g6 → Calls Try.prog 53 #[.slice (some ⟨b5, 0, none⟩) es.length es.length, .slice (some ⟨b6, 0, none⟩) es.length es.length] W fun r w' => r = .returned (.bool true) ∧ Below W.heap.size W w') := fun W b5 b6 g5 g6 _ q5 q6 r5 r6 => same_rows HEE.out (by have := fEdge_congr HEE.out; rwa [List.length_map] at this) (by omega) W b5 b6 g5 g6 q5 q6 r5 r6
    clear y0 y1
    go_wp2_with fail
    refine t21_r5 (fun _ _ _ _ _ h => h) (hbR H3.out) C5 C6 C7 C8 C9 C10 ?_
    intro w8 b8 t10 t11 t12 t13 t14 t15 t16 t17 t18 t19 t20 t21 t22 t23 t24 t25
    have B8 : Hid (Below w.heap.size w w8) := B3.out.trans (b8.mono B3.out.size)
    clear b8 C5 C6 C7 C8 C9 C10
    go_wp2_with fail
    go_ret
    exact ⟨rfl, B8.out⟩
end Go.Proofs.Ytepfbhigeghjjaa.Q
