/- OutsideUnreachable: the walk. -/
import Derived.Test.YtepfbhigeghjjaaO33y
namespace Go.Proofs.Ytepfbhigeghjjaa.Q
open Go.RowKit Go.Proofs.YtepfbhigeghjjaaW.PrintLast
set_option linter.unusedVariables false
set_option linter.unusedSimpArgs false

set_option maxHeartbeats 2000000 in
set_option maxRecDepth 100000 in
theorem u8_r5 {hb len cap mA mB : Nat} {n root : Int} {A : Option Addr} {QA QB : (Nat → Value) → Prop} {Q : Exit → Act → World → Prop} (hp : ∀ c (a : Act) (i : Nat) (v : Value) w, Q (.panic c) (a.put (some i) v) w → Q (.panic c) a w)
    {u0 u3 u4 u5 u6 u7 u8 u9 u10 u11 u12 u13 u14 u15 u16 u17 u18 u19 u20 u21 u22 u23 u24 u25 u26 u27 u28 u29 u30 u31 u32 u33 u34 u35 u36 u37 u38 u39 u40 u41 u42 u43 u44 u45 u46 u47 u48 u49 u50 u51 u52 u53 u54 u55 : Value} {wr : World} (HR : wr.rangeAt hb 0 [.int .i64 n, .slice A len cap]) (C5 : Hid (∀ W : World, Below wr.heap.size wr W → Calls Try.prog 40 #[.agg #[.int .i64 n, .slice A len cap], .int .i64 root] W (SPost 3 mA QA W))) (C6 : Hid (∀ W : World, Below wr.heap.size wr W → Calls Try.prog 41 #[.agg #[.int .i64 n, .slice A len cap], .int .i64 root] W (SPost 4 mB QB W)))
    (hQ : ∀ (b5 b6 : Nat) (g5 g6 : Nat → Value) (w8 : World), (QA g5 ∧ w8.rowIs b5 3 mA g5) ∧ QB g6 ∧ w8.rowIs b6 4 mB g6 → Below wr.heap.size wr w8 → ∀ (t13 t14 t15 t16 t17 t18 : Value), Q .normal { tmps := #[u0, .int .i64 root, .pointer (some ⟨hb, 0, none⟩), u3, u4, .slice (some ⟨b5, 0, none⟩) mA mA, .slice (some ⟨b6, 0, none⟩) mB mB, u7, u8, u9, u10, u11, u12, t13, t14, t15, t16, t17, t18, u19, u20, u21, u22, u23, u24, u25, u26, u27, u28, u29, u30, u31, u32, u33, u34, u35, u36, u37, u38, u39, u40, u41, u42, u43, u44, u45, u46, u47, u48, u49, u50, u51, u52, u53, u54, u55], defers := [] } (w8)) :
    Code.wp Try.prog (reg (Try.f8) 5) Q { tmps := #[u0, .int .i64 root, .pointer (some ⟨hb, 0, none⟩), u3, u4, u5, u6, u7, u8, u9, u10, u11, u12, u13, u14, u15, u16, u17, u18, u19, u20, u21, u22, u23, u24, u25, u26, u27, u28, u29, u30, u31, u32, u33, u34, u35, u36, u37, u38, u39, u40, u41, u42, u43, u44, u45, u46, u47, u48, u49, u50, u51, u52, u53, u54, u55], defers := [] } wr := by
  have HQ := Lib.hid hQ
  have HP := Lib.hid hp
  clear hQ hp
  refine start_ (n := 8) (S := fun w' => w'.rangeAt hb 0 [.int .i64 n, .slice A len cap]) (ds := []) #[false, false, false, false, false, false, false, false] (by kernel_rfl) rfl rfl HR (fun hHeld => ?_)
  refine pure_ (i := 1) (N := some 14) (v := ?_) (a' := ?_) #[false, true, false, false, false, false, false, false] rfl rfl (by kernel_rfl) (fun c a w h => HP.out c a _ _ w h) (Or.inl ⟨by rfl, ?_⟩) ?_ ?_
  rotate_left
  · intro w'
    go_simp
    with_reducible rfl
  rotate_left
  · simp only [Act.put, List.setIfInBounds_toArray, List.set_cons_zero, List.set_cons_succ, i64_w, i32_w]
    rfl
  refine pure_ (i := 4) (N := some 17) (v := ?_) (a' := ?_) #[false, true, false, false, true, false, false, false] rfl rfl (by kernel_rfl) (fun c a w h => HP.out c a _ _ w h) (Or.inl ⟨by rfl, ?_⟩) ?_ ?_
  rotate_left
  · intro w'
    go_simp
    with_reducible rfl
  rotate_left
  · simp only [Act.put, List.setIfInBounds_toArray, List.set_cons_zero, List.set_cons_succ, i64_w, i32_w]
    rfl
  refine take_ (i := 0) (N := some 13) (a' := ?_) #[true, true, false, false, true, false, false, false] rfl rfl (by kernel_rfl) (fun c a w h => HP.out c a _ _ w h) (yieldsIf_load_mid (by rfl) 48 _ rfl hb 0 (by rfl) [.int .i64 n, .slice A len cap] _ (fun w' h => h) Try.underlying48 rfl (by kernel_rfl)) hHeld ?_ ?_
  rotate_left
  · simp only [Act.put, List.setIfInBounds_toArray, List.set_cons_zero, List.set_cons_succ, i64_w, i32_w]
    rfl
  refine take_ (i := 3) (N := some 16) (a' := ?_) #[true, true, false, true, true, false, false, false] rfl rfl (by kernel_rfl) (fun c a w h => HP.out c a _ _ w h) (yieldsIf_load_mid (by rfl) 48 _ rfl hb 0 (by rfl) [.int .i64 n, .slice A len cap] _ (fun w' h => h) Try.underlying48 rfl (by kernel_rfl)) hHeld ?_ ?_
  rotate_left
  · simp only [Act.put, List.setIfInBounds_toArray, List.set_cons_zero, List.set_cons_succ, i64_w, i32_w]
    rfl
  refine one_ (i := 2) (N := some 15) #[true, true, true, true, true, false, false, false] rfl rfl (by kernel_rfl) (by decide) (fun K hK => ?_)
  refine goesV_ Try.func40 (by kernel_rfl) rfl #[.agg #[.int .i64 n, .slice A len cap], .int .i64 root] (by rfl) rfl rfl (by rfl) (by simp only [List.map_toArray, List.map_cons, List.map_nil]; rfl) ?_
  with_reducible refine (C5.out _ (Below.refl wr.heap.size wr).drew).mono ?_
  rintro r w5 ⟨b5, g5, rfl, hq5, hr5, bb5⟩
  have BB5 : Hid (Below wr.heap.size wr w5) := (Below.refl _ _).drew.trans bb5
  have e5 := Eff.of_below bb5 (fun _ => False)
  have HR5 := Lib.hid (And.intro hq5 hr5)
  clear bb5 hq5 hr5
  refine ⟨_, rfl, ?_⟩
  refine hK.out _ _ (rangeAt_eff hHeld e5 (fun h => h)) (fun hHeld => ?_)
  clear hK K
  refine norm_ (a' := ?_) ?_ ?_
  rotate_left
  · show Act.put _ (some 15) _ = _
    simp only [Act.put, List.setIfInBounds_toArray, List.set_cons_zero, List.set_cons_succ, i64_w, i32_w]
    rfl
  refine one_ (i := 5) (N := some 18) #[true, true, true, true, true, true, false, false] rfl rfl (by kernel_rfl) (by decide) (fun K hK => ?_)
  refine goesV_ Try.func41 (by kernel_rfl) rfl #[.agg #[.int .i64 n, .slice A len cap], .int .i64 root] (by rfl) rfl rfl (by rfl) (by simp only [List.map_toArray, List.map_cons, List.map_nil]; rfl) ?_
  with_reducible refine (C6.out _ BB5.out).mono ?_
  rintro r w6 ⟨b6, g6, rfl, hq6, hr6, bb6⟩
  have BB6 : Hid (Below wr.heap.size wr w6) := BB5.out.trans (bb6.mono BB5.out.size)
  have e6 := Eff.of_below bb6 (fun _ => False)
  have HR6 := Lib.hid (And.intro (And.intro HR5.out.1 (row_below HR5.out.2 bb6)) (And.intro hq6 hr6))
  clear bb6 hq6 hr6
  refine ⟨_, rfl, ?_⟩
  refine hK.out _ _ (rangeAt_eff hHeld e6 (fun h => h)) (fun hHeld => ?_)
  clear hK K
  refine norm_ (a' := ?_) ?_ ?_
  rotate_left
  · show Act.put _ (some 18) _ = _
    simp only [Act.put, List.setIfInBounds_toArray, List.set_cons_zero, List.set_cons_succ, i64_w, i32_w]
    rfl
  refine pure_ (i := 6) (N := some 5) (v := ?_) (a' := ?_) #[true, true, true, true, true, true, true, false] rfl rfl (by kernel_rfl) (fun c a w h => HP.out c a _ _ w h) (Or.inl ⟨by rfl, ?_⟩) ?_ ?_
  rotate_left
  · intro w'
    go_simp
    with_reducible rfl
  rotate_left
  · simp only [Act.put, List.setIfInBounds_toArray, List.set_cons_zero, List.set_cons_succ, i64_w, i32_w]
    rfl
  refine pure_ (i := 7) (N := some 6) (v := ?_) (a' := ?_) #[true, true, true, true, true, true, true, true] rfl rfl (by kernel_rfl) (fun c a w h => HP.out c a _ _ w h) (Or.inl ⟨by rfl, ?_⟩) ?_ ?_
  rotate_left
  · intro w'
    go_simp
    with_reducible rfl
  rotate_left
  · simp only [Act.put, List.setIfInBounds_toArray, List.set_cons_zero, List.set_cons_succ, i64_w, i32_w]
    rfl
  refine done_ (by kernel_rfl) ?_
  exact HQ.out _ _ _ _ _ HR6.out BB6.out _ _ _ _ _ _

set_option maxHeartbeats 8000000 in
set_option maxRecDepth 100000 in
theorem unreachable_walk (n : Int) (A : Option Addr) (cap : Nat) (es : List REd) (root : Int) (w : World) (hA : EdsIn w A es) : Calls Try.prog 8 #[.agg #[.int .i64 n, .slice A es.length cap], .int .i64 root] w (TruePost w) := by
  have HA := Lib.hid hA
  clear hA
  obtain ⟨W1, hW1⟩ : ∃ W, W = w.alloc (.cells #[.int .i64 n, .slice A es.length cap] 48) := ⟨_, rfl⟩
  obtain ⟨hb, hhb⟩ : ∃ b, b = w.heap.size := ⟨_, rfl⟩
  have B1 : Hid (Below w.heap.size w W1) := by rw [hW1]; exact (Below.refl _ _).alloc (Nat.le_refl _) _
  have H1 : Hid (HBZ W1 hb n es.length cap A) := by show W1.heap[hb]? = _; rw [hW1, hhb]; exact heap_alloc_new w _
  have HW1 := Lib.hid (And.intro hW1 hhb)
  have AW := Lib.hid (awake38 W1)
  clear hW1 hhb
  go_enter Try.func8, Try.ntmps8
  go_wp2_with fail
  rw [← HW1.out.1, ← HW1.out.2]
  with_reducible refine AW.out.mono ?_
  rintro r w2 ⟨rfl, b2⟩
  have B2 : Hid (Below w.heap.size w w2) := B1.out.trans (b2.mono B1.out.size)
  have H2 := Lib.hid (H1.out.bel b2)
  have CS := Lib.hid (small39 (cap := cap) n es (HA.out.below B2.out))
  clear b2 H1 B1 HW1 AW
  obtain ⟨y0, y1⟩ := H2.out.c
  go_wp2_with fail
  with_reducible refine CS.out.mono ?_
  rintro r w3 ⟨b, rfl, hb3, b3⟩
  have B3 : Hid (Below w.heap.size w w3) := B2.out.trans (b3.mono B2.out.size)
  have H3 := Lib.hid (H2.out.bel b3)
  have SM := Lib.hid hb3
  clear b3 hb3 y0 y1 H2 B2 CS
  obtain ⟨y0, y1⟩ := H3.out.c
  cases b with
  | false =>
    go_wp2_with fail
    go_ret
    exact ⟨rfl, B3.out⟩
  | true =>
    obtain ⟨m, v0, f0, hm⟩ := SM.out rfl
    obtain ⟨⟨rfl, h1, h30, h60, hok⟩, hs0, hz0⟩ := hm
    have HOK := Lib.hid hok
    have HEE : Hid (∀ e ∈ es.map REd.plain, K.OkE m e) := edges_ok hok
    have HZ0 := Lib.hid (And.intro hs0 hz0)
    clear SM hok hs0 hz0
    have C5 : Hid (∀ W : World, Below w3.heap.size w3 W → Calls Try.prog 40 #[.agg #[.int .i64 m, .slice A es.length cap], .int .i64 root] W (SPost 3 m (RowQ (es.map REd.plain) m root fOut) W)) := fun W hW => (outside40 root (HA.out.below (B3.out.trans (hW.mono B3.out.size))) HOK.out h30 h60).mono (fun _ _ h => RPost.s h)
    have C6 : Hid (∀ W : World, Below w3.heap.size w3 W → Calls Try.prog 41 #[.agg #[.int .i64 m, .slice A es.length cap], .int .i64 root] W (SPost 4 m (ReachQ (es.map REd.plain) m root) W)) := fun W hW => (reach41 root (HA.out.below (B3.out.trans (hW.mono B3.out.size))) HOK.out (by omega) (by omega)).mono (fun _ _ h => ReachPost.s h)
    clear y0 y1
    go_wp2_with fail
    refine u8_r5 (fun _ _ _ _ _ h => h) (hbR H3.out) C5 C6 ?_
    intro b5 b6 g5 g6 w8 hQ b8 t13 t14 t15 t16 t17 t18
    obtain ⟨⟨⟨v, f, out, hs, ho, rfl⟩, hr5⟩, ⟨d, hd, rfl⟩, hr6⟩ := hQ
    have HI : Hid (Below w.heap.size w w8 ∧ HBZ w8 hb m es.length cap A ∧ w8.rowIs b5 3 m (intRow out) ∧ w8.rowIs b6 4 m (boolRow d)) := ⟨B3.out.trans (b8.mono B3.out.size), H3.out.bel b8, hr5, hr6⟩
    have HQ := Lib.hid (And.intro hs (And.intro ho hd))
    clear hs ho hd hr5 hr6 b8 C5 C6 H3 B3
    obtain ⟨y0, y1⟩ := HI.out.2.1.c
    go_wp2_with fail
    clear y0 y1
    go_loopg [7] m (fun gk s7 wr => ∃ i : Nat, s7 = .int .i64 i ∧ i ≤ m ∧ m - i ≤ gk ∧ Hid (Below w.heap.size w wr ∧ HBZ wr hb m es.length cap A ∧ wr.rowIs b5 3 m (intRow out) ∧ wr.rowIs b6 4 m (boolRow d)))
    case atStart => exact ⟨0, rfl, by omega, by omega, HI.out⟩
    case round =>
      clear HI
      obtain ⟨i, rfl, hi, hk, HR⟩ := hrel
      obtain ⟨y0, y1⟩ := HR.out.2.1.c
      by_cases hlt : i < m
      · have hlz : (i : Int) < (m : Int) := by omega
        obtain ⟨x, hx⟩ : ∃ x, out i = x := ⟨_, rfl⟩
        obtain ⟨y, hy⟩ : ∃ y, d i = y := ⟨_, rfl⟩
        have x1 : wr.cell? ⟨b5, i, none⟩ = some (.int .i64 x) := by rw [← hx]; exact HR.out.2.2.1.cell hlt
        have x2 : wr.cell? ⟨b6, i, none⟩ = some (.bool y) := by rw [← hy]; exact HR.out.2.2.2.cell hlt
        have hxo := outIs_ok HQ.out.2.1 i hlt
        have hun := unreachable_inf HQ.out.2.1 HQ.out.2.2 i hlt
        rw [hx] at hxo hun
        rw [hy] at hun
        obtain ⟨hx0, hx1⟩ := hxo
        have g1 : ¬ x < 0 := by omega
        have g2 : ¬ 1099511627776 < x := by omega
        cases y with
        | true =>
          clear hun hx hy
          go_wp2_with fail
          go_roundg (m - (i + 1))
          case measure => omega
          case rel => exact ⟨i + 1, by go_num, by omega, by omega, HR.out⟩
        | false =>
          obtain rfl : x = 1099511627776 := hun rfl
          clear hun hx hy
          go_wp2_with fail
          go_roundg (m - (i + 1))
          case measure => omega
          case rel => exact ⟨i + 1, by go_num, by omega, by omega, HR.out⟩
      · have hlz : ¬ (i : Int) < (m : Int) := by omega
        obtain rfl : m = i := by omega
        go_wp2_with fail
        go_ret
        exact ⟨rfl, HR.out.1⟩
end Go.Proofs.Ytepfbhigeghjjaa.Q
