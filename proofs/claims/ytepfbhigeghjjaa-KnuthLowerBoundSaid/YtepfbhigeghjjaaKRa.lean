/- Regions of the reference's Solve. -/
import Derived.Test.YtepfbhigeghjjaaKT
import Derived.Test.YtepfbhigeghjjaaKB
import Derived.Test.YtepfbhigeghjjaaL29a
namespace Go.Proofs.Ytepfbhigeghjjaa.Q
open Go.RowKit Go.Proofs.YtepfbhigeghjjaaW.PrintLast
set_option linter.unusedVariables false
set_option linter.unusedSimpArgs false

theorem box54 (W : World) (a b : Int) : ((W.alloc (.cells #[.int .i64 0, .int .i64 0] 54)).setCells W.heap.size 0 [.int .i64 a, .int .i64 b]).heap[W.heap.size]? = some (.cells #[.int .i64 a, .int .i64 b] 54 (0, 0)) ∧ Below W.heap.size W ((W.alloc (.cells #[.int .i64 0, .int .i64 0] 54)).setCells W.heap.size 0 [.int .i64 a, .int .i64 b]) := by
  have e : (W.alloc (.cells #[.int .i64 0, .int .i64 0] 54)).setCells W.heap.size 0 [.int .i64 a, .int .i64 b] = ((W.alloc (.cells #[.int .i64 0, .int .i64 0] 54)).setCell ⟨W.heap.size, 0, none⟩ (.int .i64 a)).setCell ⟨W.heap.size, 0 + 1, none⟩ (.int .i64 b) := rfl
  rw [e]
  refine ⟨set_cell (set_cell (heap_alloc_new W _) 0 _) 1 _, ?_⟩
  exact (((Below.refl _ W).alloc (Nat.le_refl _) _).setCell (p := ⟨W.heap.size, 0, none⟩) (Nat.le_refl _) _).setCell (p := ⟨W.heap.size, 0 + 1, none⟩) (Nat.le_refl _) _
theorem box_set54 {wr W : World} {b : Nat} {u v : Value} (h : W.heap[b]? = some (.cells #[u, v] 54 (0, 0))) (hb : Below wr.heap.size wr W) (hl : wr.heap.size ≤ b) (x y : Int) : (W.setCells b 0 [.int .i64 x, .int .i64 y]).heap[b]? = some (.cells #[.int .i64 x, .int .i64 y] 54 (0, 0)) ∧ Below wr.heap.size wr (W.setCells b 0 [.int .i64 x, .int .i64 y]) := by
  have e : W.setCells b 0 [.int .i64 x, .int .i64 y] = (W.setCell ⟨b, 0, none⟩ (.int .i64 x)).setCell ⟨b, 0 + 1, none⟩ (.int .i64 y) := rfl
  rw [e]
  exact ⟨set_cell (set_cell h 0 _) 1 _, (hb.setCell (p := ⟨b, 0, none⟩) hl _).setCell (p := ⟨b, 0 + 1, none⟩) hl _⟩
set_option maxHeartbeats 2000000 in
set_option maxRecDepth 100000 in
theorem ref_r14 {bv n xb m ec : Nat} {hn cost l0 l1 y1 y2 : Int} {eA : Option Addr} {l : List K.V} {Q : Exit → Act → World → Prop} (hp : ∀ c (a : Act) (i : Nat) (v : Value) w, Q (.panic c) (a.put (some i) v) w → Q (.panic c) a w)
    {u0 u1 u2 u3 u5 u6 u7 u8 u10 u11 u12 u13 u14 u15 u16 u17 u18 u19 u20 u21 u22 u23 u24 u25 u26 u27 u28 u29 u30 u31 u32 u33 u34 u35 u36 u37 u38 u39 u40 u41 u42 u43 u44 u45 u46 u47 u48 u49 u50 u51 u52 u53 u54 u55 u56 u57 u58 u59 u60 u61 u62 u63 u64 u65 u66 u67 u68 u69 u70 u71 u72 u73 u74 u75 u76 u77 u78 u79 u80 u81 u82 u83 u84 u85 u86 u87 u88 u89 u90 u91 u92 u93 u94 u95 u96 u97 u98 u99 u100 u101 : Value} {wr : World} (XR : wr.rangeAt xb 0 [.int .i64 hn, .slice eA m ec, .int .i64 cost, .int .i64 l0, .int .i64 l1]) (X2 : wr.cell? ⟨xb, 2, none⟩ = some (.int .i64 cost)) (CT : Hid (∀ W : World, Below wr.heap.size wr W → Calls Try.prog 54 #[.agg #[.int .i64 hn, .slice eA m ec, .int .i64 cost, .int .i64 l0, .int .i64 l1], .slice (some ⟨bv, 0, none⟩) n n] W (TailsPost W l))) (C48 : Hid (∀ (W : World) (A : Option Addr) (c : Nat), ValsIn W A l → Calls Try.prog 48 #[.int .i64 cost, .slice A l.length c] W fun r w' => r = .returned (.agg #[.int .i64 y1, .int .i64 y2]) ∧ Below W.heap.size W w'))
    (hQ : ∀ (yb : Nat) (w8 : World), Below wr.heap.size wr w8 → w8.heap[yb]? = some (.cells #[.int .i64 y1, .int .i64 y2] 54 (0, 0)) → wr.heap.size ≤ yb → ∀ (t46 t47 t48 t49 t50 t51 : Value), Q .normal { tmps := #[u0, u1, u2, u3, .slice (some ⟨bv, 0, none⟩) n n, u5, u6, u7, u8, .pointer (some ⟨xb, 0, none⟩), .pointer (some ⟨yb, 0, none⟩), u11, u12, u13, u14, u15, u16, u17, u18, u19, u20, u21, u22, u23, u24, u25, u26, u27, u28, u29, u30, u31, u32, u33, u34, u35, u36, u37, u38, u39, u40, u41, u42, u43, u44, u45, t46, t47, t48, t49, t50, t51, u52, u53, u54, u55, u56, u57, u58, u59, u60, u61, u62, u63, u64, u65, u66, u67, u68, u69, u70, u71, u72, u73, u74, u75, u76, u77, u78, u79, u80, u81, u82, u83, u84, u85, u86, u87, u88, u89, u90, u91, u92, u93, u94, u95, u96, u97, u98, u99, u100, u101], defers := [] } (w8)) :
    Code.wp Try.prog (reg (Try.f51) 14) Q { tmps := #[u0, u1, u2, u3, .slice (some ⟨bv, 0, none⟩) n n, u5, u6, u7, u8, .pointer (some ⟨xb, 0, none⟩), u10, u11, u12, u13, u14, u15, u16, u17, u18, u19, u20, u21, u22, u23, u24, u25, u26, u27, u28, u29, u30, u31, u32, u33, u34, u35, u36, u37, u38, u39, u40, u41, u42, u43, u44, u45, u46, u47, u48, u49, u50, u51, u52, u53, u54, u55, u56, u57, u58, u59, u60, u61, u62, u63, u64, u65, u66, u67, u68, u69, u70, u71, u72, u73, u74, u75, u76, u77, u78, u79, u80, u81, u82, u83, u84, u85, u86, u87, u88, u89, u90, u91, u92, u93, u94, u95, u96, u97, u98, u99, u100, u101], defers := [] } wr := by
  have HQ := Lib.hid hQ
  have HP := Lib.hid hp
  clear hQ hp
  refine start_ (n := 8) (S := fun w' => w'.rangeAt xb 0 [.int .i64 hn, .slice eA m ec, .int .i64 cost, .int .i64 l0, .int .i64 l1] ∧ w'.cell? ⟨xb, 2, none⟩ = some (.int .i64 cost)) (ds := [7]) #[false, false, false, false, false, false, false, false] (by kernel_rfl) rfl rfl ⟨XR, X2⟩ (fun hHeld => ?_)
  refine pure_ (i := 0) (N := some 46) (v := ?_) (a' := ?_) #[true, false, false, false, false, false, false, false] rfl rfl (by kernel_rfl) (fun c a w h => HP.out c a _ _ w h) (Or.inl ⟨by rfl, ?_⟩) ?_ ?_
  rotate_left
  · intro w'
    go_simp
    with_reducible rfl
  rotate_left
  · simp only [Act.put, List.setIfInBounds_toArray, List.set_cons_zero, List.set_cons_succ, i64_w, i32_w]
    rfl
  refine pure_ (i := 3) (N := some 49) (v := ?_) (a' := ?_) #[true, false, false, true, false, false, false, false] rfl rfl (by kernel_rfl) (fun c a w h => HP.out c a _ _ w h) (Or.inl ⟨by rfl, ?_⟩) ?_ ?_
  rotate_left
  · intro w'
    go_simp
    with_reducible rfl
  rotate_left
  · simp only [Act.put, List.setIfInBounds_toArray, List.set_cons_zero, List.set_cons_succ, i64_w, i32_w]
    rfl
  refine take_ (i := 1) (N := some 47) (v := ?_) (a' := ?_) #[true, true, false, true, false, false, false, false] rfl rfl (by kernel_rfl) (fun c a w h => HP.out c a _ _ w h) (Or.inl ⟨by rfl, ?_⟩) hHeld ?_ ?_
  rotate_left
  · rintro w' ⟨s0, s1⟩
    go_simp
    with_reducible rfl
  rotate_left
  · simp only [Act.put, List.setIfInBounds_toArray, List.set_cons_zero, List.set_cons_succ, i64_w, i32_w]
    rfl
  refine take_ (i := 2) (N := some 48) (a' := ?_) #[true, true, true, true, false, false, false, false] rfl rfl (by kernel_rfl) (fun c a w h => HP.out c a _ _ w h) (yieldsIf_load_mid (by rfl) 60 _ rfl xb 0 (by rfl) [.int .i64 hn, .slice eA m ec, .int .i64 cost, .int .i64 l0, .int .i64 l1] _ (fun w' h => h.1) Try.underlying60 rfl (by kernel_rfl)) hHeld ?_ ?_
  rotate_left
  · simp only [Act.put, List.setIfInBounds_toArray, List.set_cons_zero, List.set_cons_succ, i64_w, i32_w]
    rfl
  refine join_ (σ := Nat × Option Addr × Nat) 1 #[true, true, true, true, true, true, true, false] (fun s => [(50, .slice s.2.1 l.length s.2.2), (51, .agg #[.int .i64 y1, .int .i64 y2]), (10, .pointer (some ⟨s.1, 0, none⟩))]) (fun s w' => w'.heap[s.1]? = some (.cells #[.int .i64 0, .int .i64 0] 54 (0, 0)) ∧ Below wr.heap.size wr w' ∧ wr.heap.size ≤ s.1 ∧ (w'.rangeAt xb 0 [.int .i64 hn, .slice eA m ec, .int .i64 cost, .int .i64 l0, .int .i64 l1] ∧ w'.cell? ⟨xb, 2, none⟩ = some (.int .i64 cost))) ?_ ?_
  rotate_left
  · intro hCont
    refine two_ (i := 4) (j := 6) (Ni := some 50) (Nj := some 10) #[true, true, true, true, true, false, false, false] #[true, true, true, true, false, false, true, false] rfl rfl rfl rfl (by kernel_rfl) (by decide) (by decide) (fun K hK => ?_) (fun K hK => ?_)
    · skip
      refine goesV_ Try.func54 (by kernel_rfl) rfl #[.agg #[.int .i64 hn, .slice eA m ec, .int .i64 cost, .int .i64 l0, .int .i64 l1], .slice (some ⟨bv, 0, none⟩) n n] (by rfl) rfl rfl (by rfl) (by simp only [List.map_toArray, List.map_cons, List.map_nil]; rfl) ?_
      with_reducible refine (CT.out (wr.drew) ((Below.refl wr.heap.size wr).drew)).mono ?_
      rintro r w4 ⟨A', c', rfl, hv4, b4⟩
      have BB4 : Hid (Below wr.heap.size wr w4) := ((Below.refl wr.heap.size wr).drew).trans (b4.mono ((Below.refl wr.heap.size wr).drew).size)
      have HV4 := Lib.hid hv4
      have e4 := Eff.of_below b4 (fun _ => False)
      clear hv4 b4
      refine ⟨_, rfl, ?_⟩
      refine hK.out _ _ ⟨(rangeAt_eff hHeld.1 e4 (fun h => h)), (e4.cell hHeld.2 (fun h => h))⟩ (fun hHeld => ?_)
      clear hK K
      refine norm_ (a' := ?_) ?_ ?_
      rotate_left
      · show Act.put _ (some 50) _ = _
        simp only [Act.put, List.setIfInBounds_toArray, List.set_cons_zero, List.set_cons_succ, i64_w, i32_w]
        rfl
      refine two_ (i := 5) (j := 6) (Ni := some 51) (Nj := some 10) #[true, true, true, true, true, true, false, false] #[true, true, true, true, true, false, true, false] rfl rfl rfl rfl (by kernel_rfl) (by decide) (by decide) (fun K hK => ?_) (fun K hK => ?_)
      · skip
        refine goesV_ Try.func48 (by kernel_rfl) rfl #[.int .i64 cost, .slice A' l.length c'] (by rfl) rfl rfl (by rfl) (by simp only [List.map_toArray, List.map_cons, List.map_nil]; rfl) ?_
        with_reducible refine (C48.out (w4) A' c' HV4.out).mono ?_
        rintro r w5 ⟨rfl, b5⟩
        have BB5 : Hid (Below wr.heap.size wr w5) := (BB4.out).trans (b5.mono (BB4.out).size)
        have e5 := Eff.of_below b5 (fun _ => False)
        clear b5
        refine ⟨_, rfl, ?_⟩
        refine hK.out _ _ ⟨(rangeAt_eff hHeld.1 e5 (fun h => h)), (e5.cell hHeld.2 (fun h => h))⟩ (fun hHeld => ?_)
        clear hK K
        refine norm_ (a' := ?_) ?_ ?_
        rotate_left
        · show Act.put _ (some 51) _ = _
          simp only [Act.put, List.setIfInBounds_toArray, List.set_cons_zero, List.set_cons_succ, i64_w, i32_w]
          rfl
        refine one_ (i := 6) (N := some 10) #[true, true, true, true, true, true, true, false] rfl rfl (by kernel_rfl) (by decide) (fun K hK => ?_)
        refine value_ (w1 := ?_) (v := ?_) (by rfl) rfl ?_ ?_
        rotate_left 2
        · go_simp
          constructor
          · rfl
          · rfl
        refine hK.out _ _ ⟨(rangeAt_eff hHeld.1 (eff_alloc _ _) (fun h => h)), ((eff_alloc _ _).cell hHeld.2 (fun h => h))⟩ (fun hHeld => ?_)
        clear hK K
        refine norm_ (a' := ?_) ?_ ?_
        rotate_left
        · show Act.put _ (some 10) _ = _
          simp only [Act.put, List.setIfInBounds_toArray, List.set_cons_zero, List.set_cons_succ, i64_w, i32_w]
          rfl
        exact norm_ (by simp only [putAll, Act.put, List.setIfInBounds_toArray, List.set_cons_zero, List.set_cons_succ]) (hCont (w5.heap.size, A', c') _ ⟨heap_alloc_new w5 _, ((BB5.out).alloc (BB5.out).size _), (BB5.out).size, hHeld⟩)
      · skip
        refine value_ (w1 := ?_) (v := ?_) (by rfl) rfl ?_ ?_
        rotate_left 2
        · go_simp
          constructor
          · rfl
          · rfl
        refine hK.out _ _ ⟨(rangeAt_eff hHeld.1 (eff_alloc _ _) (fun h => h)), ((eff_alloc _ _).cell hHeld.2 (fun h => h))⟩ (fun hHeld => ?_)
        clear hK K
        refine norm_ (a' := ?_) ?_ ?_
        rotate_left
        · show Act.put _ (some 10) _ = _
          simp only [Act.put, List.setIfInBounds_toArray, List.set_cons_zero, List.set_cons_succ, i64_w, i32_w]
          rfl
        refine one_ (i := 5) (N := some 51) #[true, true, true, true, true, true, true, false] rfl rfl (by kernel_rfl) (by decide) (fun K hK => ?_)
        refine goesV_ Try.func48 (by kernel_rfl) rfl #[.int .i64 cost, .slice A' l.length c'] (by rfl) rfl rfl (by rfl) (by simp only [List.map_toArray, List.map_cons, List.map_nil]; rfl) ?_
        with_reducible refine (C48.out ((w4.alloc (.cells #[.int .i64 0, .int .i64 0] 54))) A' c' (HV4.out.below ((Below.refl _ _).alloc (Nat.le_refl _) _))).mono ?_
        rintro r w5 ⟨rfl, b5⟩
        have BB5 : Hid (Below wr.heap.size wr w5) := (((BB4.out).alloc (BB4.out).size _)).trans (b5.mono (((BB4.out).alloc (BB4.out).size _)).size)
        have e5 := Eff.of_below b5 (fun _ => False)
        have ZB5 := Lib.hid (below_heap b5 (heap_alloc_new w4 _))
        clear b5
        refine ⟨_, rfl, ?_⟩
        refine hK.out _ _ ⟨(rangeAt_eff hHeld.1 e5 (fun h => h)), (e5.cell hHeld.2 (fun h => h))⟩ (fun hHeld => ?_)
        clear hK K
        refine norm_ (a' := ?_) ?_ ?_
        rotate_left
        · show Act.put _ (some 51) _ = _
          simp only [Act.put, List.setIfInBounds_toArray, List.set_cons_zero, List.set_cons_succ, i64_w, i32_w]
          rfl
        exact norm_ (by simp only [putAll, Act.put, List.setIfInBounds_toArray, List.set_cons_zero, List.set_cons_succ]) (hCont (w4.heap.size, A', c') _ ⟨ZB5.out, BB5.out, (BB4.out).size, hHeld⟩)
    · skip
      refine value_ (w1 := ?_) (v := ?_) (by rfl) rfl ?_ ?_
      rotate_left 2
      · go_simp
        constructor
        · rfl
        · rfl
      refine hK.out _ _ ⟨(rangeAt_eff hHeld.1 (eff_alloc _ _) (fun h => h)), ((eff_alloc _ _).cell hHeld.2 (fun h => h))⟩ (fun hHeld => ?_)
      clear hK K
      refine norm_ (a' := ?_) ?_ ?_
      rotate_left
      · show Act.put _ (some 10) _ = _
        simp only [Act.put, List.setIfInBounds_toArray, List.set_cons_zero, List.set_cons_succ, i64_w, i32_w]
        rfl
      refine one_ (i := 4) (N := some 50) #[true, true, true, true, true, false, true, false] rfl rfl (by kernel_rfl) (by decide) (fun K hK => ?_)
      refine goesV_ Try.func54 (by kernel_rfl) rfl #[.agg #[.int .i64 hn, .slice eA m ec, .int .i64 cost, .int .i64 l0, .int .i64 l1], .slice (some ⟨bv, 0, none⟩) n n] (by rfl) rfl rfl (by rfl) (by simp only [List.map_toArray, List.map_cons, List.map_nil]; rfl) ?_
      with_reducible refine (CT.out ((wr.alloc (.cells #[.int .i64 0, .int .i64 0] 54)).drew) (((Below.refl wr.heap.size wr).alloc (Nat.le_refl _) _).drew)).mono ?_
      rintro r w4 ⟨A', c', rfl, hv4, b4⟩
      have BB4 : Hid (Below wr.heap.size wr w4) := (((Below.refl wr.heap.size wr).alloc (Nat.le_refl _) _).drew).trans (b4.mono (((Below.refl wr.heap.size wr).alloc (Nat.le_refl _) _).drew).size)
      have HV4 := Lib.hid hv4
      have e4 := Eff.of_below b4 (fun _ => False)
      have ZB4 := Lib.hid (below_heap b4 (heap_alloc_new wr _))
      clear hv4 b4
      refine ⟨_, rfl, ?_⟩
      refine hK.out _ _ ⟨(rangeAt_eff hHeld.1 e4 (fun h => h)), (e4.cell hHeld.2 (fun h => h))⟩ (fun hHeld => ?_)
      clear hK K
      refine norm_ (a' := ?_) ?_ ?_
      rotate_left
      · show Act.put _ (some 50) _ = _
        simp only [Act.put, List.setIfInBounds_toArray, List.set_cons_zero, List.set_cons_succ, i64_w, i32_w]
        rfl
      refine one_ (i := 5) (N := some 51) #[true, true, true, true, true, true, true, false] rfl rfl (by kernel_rfl) (by decide) (fun K hK => ?_)
      refine goesV_ Try.func48 (by kernel_rfl) rfl #[.int .i64 cost, .slice A' l.length c'] (by rfl) rfl rfl (by rfl) (by simp only [List.map_toArray, List.map_cons, List.map_nil]; rfl) ?_
      with_reducible refine (C48.out (w4) A' c' HV4.out).mono ?_
      rintro r w5 ⟨rfl, b5⟩
      have BB5 : Hid (Below wr.heap.size wr w5) := (BB4.out).trans (b5.mono (BB4.out).size)
      have e5 := Eff.of_below b5 (fun _ => False)
      have ZB5 := Lib.hid (below_heap b5 (ZB4.out))
      clear b5
      refine ⟨_, rfl, ?_⟩
      refine hK.out _ _ ⟨(rangeAt_eff hHeld.1 e5 (fun h => h)), (e5.cell hHeld.2 (fun h => h))⟩ (fun hHeld => ?_)
      clear hK K
      refine norm_ (a' := ?_) ?_ ?_
      rotate_left
      · show Act.put _ (some 51) _ = _
        simp only [Act.put, List.setIfInBounds_toArray, List.set_cons_zero, List.set_cons_succ, i64_w, i32_w]
        rfl
      exact norm_ (by simp only [putAll, Act.put, List.setIfInBounds_toArray, List.set_cons_zero, List.set_cons_succ]) (hCont (wr.heap.size, A', c') _ ⟨ZB5.out, BB5.out, ((Below.refl wr.heap.size wr).drew).size, hHeld⟩)
  rintro ⟨yb, A', c'⟩ w1 ⟨z1, z2, z3, hHeld⟩
  have XX := Lib.hid (And.intro z1 (And.intro z2 z3))
  clear z1 z2 z3
  refine norm_ (a' := ?_) ?_ ?_
  rotate_left
  · simp only [putAll, Act.put, List.setIfInBounds_toArray, List.set_cons_zero, List.set_cons_succ]
    rfl
  refine last_ (i := 7) (N := none) #[true, true, true, true, true, true, true, true] rfl rfl (by kernel_rfl) (by decide) (fun K hK => ?_)
  refine skip_ (w1 := w1.setCells yb 0 [.int .i64 y1, .int .i64 y2]) (by rfl) rfl (run_u (run_storeAt_mid _ yb 0 54 #[.int .i64 y1, .int .i64 y2] (box_there XX.out.1 rfl) (by kernel_rfl) (by kernel_rfl))) ?_
  refine hK.out _ _ ?_
  clear hK K
  refine done_ (by kernel_rfl) ?_
  exact HQ.out _ _ (box_set54 XX.out.1 XX.out.2.1 XX.out.2.2 y1 y2).2 (box_set54 XX.out.1 XX.out.2.1 XX.out.2.2 y1 y2).1 XX.out.2.2 _ _ _ _ _ _

set_option maxHeartbeats 2000000 in
set_option maxRecDepth 100000 in
theorem ref_r15 {bv n xb yb hn : Nat} {y1 y2 a1 a2 : Int} {L : Bool} {Q : Exit → Act → World → Prop} (hp : ∀ c (a : Act) (i : Nat) (v : Value) w, Q (.panic c) (a.put (some i) v) w → Q (.panic c) a w)
    {u0 u1 u2 u3 u5 u6 u7 u8 u11 u12 u13 u14 u15 u16 u17 u18 u19 u20 u21 u22 u23 u24 u25 u26 u27 u28 u29 u30 u31 u32 u33 u34 u35 u36 u37 u38 u39 u40 u41 u42 u43 u44 u45 u46 u47 u48 u49 u50 u51 u52 u53 u54 u55 u56 u57 u58 u59 u60 u61 u62 u63 u64 u65 u66 u67 u68 u69 u70 u71 u72 u73 u74 u75 u76 u77 u78 u79 u80 u81 u82 u83 u84 u85 u86 u87 u88 u89 u90 u91 u92 u93 u94 u95 u96 u97 u98 u99 u100 u101 : Value} {wr : World} (hL : decide (y1 < a1 ∨ y1 = a1 ∧ y2 < a2) = L) (hlz : (hn : Int) < (n : Int)) (YR : wr.rangeAt yb 0 [.int .i64 y1, .int .i64 y2]) (X0 : wr.cell? ⟨xb, 0, none⟩ = some (.int .i64 hn)) (VR : wr.rangeAt bv (hn * 2) [.int .i64 a1, .int .i64 a2])
    (hQ : ∀ (w8 : World), Below wr.heap.size wr w8 → ∀ (t52 t53 t54 t55 t56 t57 : Value), Q .normal { tmps := #[u0, u1, u2, u3, .slice (some ⟨bv, 0, none⟩) n n, u5, u6, u7, u8, .pointer (some ⟨xb, 0, none⟩), .pointer (some ⟨yb, 0, none⟩), u11, u12, u13, u14, u15, u16, u17, u18, u19, u20, u21, u22, u23, u24, u25, u26, u27, u28, u29, u30, u31, u32, u33, u34, u35, u36, u37, u38, u39, u40, u41, u42, u43, u44, u45, u46, u47, u48, u49, u50, u51, t52, t53, t54, t55, t56, t57, .bool L, u59, u60, u61, u62, u63, u64, u65, u66, u67, u68, u69, u70, u71, u72, u73, u74, u75, u76, u77, u78, u79, u80, u81, u82, u83, u84, u85, u86, u87, u88, u89, u90, u91, u92, u93, u94, u95, u96, u97, u98, u99, u100, u101], defers := [] } (w8)) :
    Code.wp Try.prog (reg (Try.f51) 15) Q { tmps := #[u0, u1, u2, u3, .slice (some ⟨bv, 0, none⟩) n n, u5, u6, u7, u8, .pointer (some ⟨xb, 0, none⟩), .pointer (some ⟨yb, 0, none⟩), u11, u12, u13, u14, u15, u16, u17, u18, u19, u20, u21, u22, u23, u24, u25, u26, u27, u28, u29, u30, u31, u32, u33, u34, u35, u36, u37, u38, u39, u40, u41, u42, u43, u44, u45, u46, u47, u48, u49, u50, u51, u52, u53, u54, u55, u56, u57, u58, u59, u60, u61, u62, u63, u64, u65, u66, u67, u68, u69, u70, u71, u72, u73, u74, u75, u76, u77, u78, u79, u80, u81, u82, u83, u84, u85, u86, u87, u88, u89, u90, u91, u92, u93, u94, u95, u96, u97, u98, u99, u100, u101], defers := [] } wr := by
  have HQ := Lib.hid hQ
  have HP := Lib.hid hp
  clear hQ hp
  have C43 : Hid (∀ W : World, Calls Try.prog 43 #[.agg #[.int .i64 y1, .int .i64 y2], .agg #[.int .i64 a1, .int .i64 a2]] W fun r w' => r = .returned (.bool L) ∧ Below W.heap.size W w') := fun W => by
    have := less43 y1 y2 a1 a2 W
    rwa [hL] at this
  clear hL
  refine start_ (n := 7) (S := fun w' => w'.rangeAt yb 0 [.int .i64 y1, .int .i64 y2] ∧ w'.cell? ⟨xb, 0, none⟩ = some (.int .i64 hn) ∧ w'.rangeAt bv (hn * 2) [.int .i64 a1, .int .i64 a2]) (ds := [6]) #[false, false, false, false, false, false, false] (by kernel_rfl) rfl rfl ⟨YR, X0, VR⟩ (fun hHeld => ?_)
  refine pure_ (i := 1) (N := some 53) (v := ?_) (a' := ?_) #[false, true, false, false, false, false, false] rfl rfl (by kernel_rfl) (fun c a w h => HP.out c a _ _ w h) (Or.inl ⟨by rfl, ?_⟩) ?_ ?_
  rotate_left
  · intro w'
    go_simp
    with_reducible rfl
  rotate_left
  · simp only [Act.put, List.setIfInBounds_toArray, List.set_cons_zero, List.set_cons_succ, i64_w, i32_w]
    rfl
  refine pure_ (i := 2) (N := some 54) (v := ?_) (a' := ?_) #[false, true, true, false, false, false, false] rfl rfl (by kernel_rfl) (fun c a w h => HP.out c a _ _ w h) (Or.inl ⟨by rfl, ?_⟩) ?_ ?_
  rotate_left
  · intro w'
    go_simp
    with_reducible rfl
  rotate_left
  · simp only [Act.put, List.setIfInBounds_toArray, List.set_cons_zero, List.set_cons_succ, i64_w, i32_w]
    rfl
  refine take_ (i := 0) (N := some 52) (a' := ?_) #[true, true, true, false, false, false, false] rfl rfl (by kernel_rfl) (fun c a w h => HP.out c a _ _ w h) (yieldsIf_load_mid (by rfl) 54 _ rfl yb 0 (by rfl) [.int .i64 y1, .int .i64 y2] _ (fun w' h => h.1) Try.underlying54 rfl (by kernel_rfl)) hHeld ?_ ?_
  rotate_left
  · simp only [Act.put, List.setIfInBounds_toArray, List.set_cons_zero, List.set_cons_succ, i64_w, i32_w]
    rfl
  refine take_ (i := 3) (N := some 55) (v := ?_) (a' := ?_) #[true, true, true, true, false, false, false] rfl rfl (by kernel_rfl) (fun c a w h => HP.out c a _ _ w h) (Or.inl ⟨by rfl, ?_⟩) hHeld ?_ ?_
  rotate_left
  · rintro w' ⟨s0, s1, s2⟩
    go_simp
    with_reducible rfl
  rotate_left
  · simp only [Act.put, List.setIfInBounds_toArray, List.set_cons_zero, List.set_cons_succ, i64_w, i32_w]
    rfl
  refine pure_ (i := 4) (N := some 56) (v := ?_) (a' := ?_) #[true, true, true, true, true, false, false] rfl rfl (by kernel_rfl) (fun c a w h => HP.out c a _ _ w h) (Or.inl ⟨by rfl, ?_⟩) ?_ ?_
  rotate_left
  · intro w'
    go_simp
    with_reducible rfl
  rotate_left
  · simp only [Act.put, List.setIfInBounds_toArray, List.set_cons_zero, List.set_cons_succ, i64_w, i32_w]
    rfl
  refine take_ (i := 5) (N := some 57) (a' := ?_) #[true, true, true, true, true, true, false] rfl rfl (by kernel_rfl) (fun c a w h => HP.out c a _ _ w h) (yieldsIf_load_mid (by rfl) 54 _ rfl bv (hn * 2) (by rfl) [.int .i64 a1, .int .i64 a2] _ (fun w' h => h.2.2) Try.underlying54 rfl (by kernel_rfl)) hHeld ?_ ?_
  rotate_left
  · simp only [Act.put, List.setIfInBounds_toArray, List.set_cons_zero, List.set_cons_succ, i64_w, i32_w]
    rfl
  refine last_ (i := 6) (N := some 58) #[true, true, true, true, true, true, true] rfl rfl (by kernel_rfl) (by decide) (fun K hK => ?_)
  refine goesV_ Try.func43 (by kernel_rfl) rfl #[.agg #[.int .i64 y1, .int .i64 y2], .agg #[.int .i64 a1, .int .i64 a2]] (by rfl) rfl rfl (by rfl) (by simp only [List.map_toArray, List.map_cons, List.map_nil]; rfl) ?_
  with_reducible refine (C43.out _).mono ?_
  rintro r w5 ⟨rfl, b5⟩
  have BB5 : Hid (Below wr.heap.size wr w5) := (Below.refl _ _).drew.trans b5
  clear b5
  refine ⟨_, rfl, ?_⟩
  refine hK.out _ _ ?_
  clear hK K
  refine norm_ (a' := ?_) ?_ ?_
  rotate_left
  · show Act.put _ (some 58) _ = _
    simp only [Act.put, List.setIfInBounds_toArray, List.set_cons_zero, List.set_cons_succ, i64_w, i32_w]
    rfl
  refine done_ (by kernel_rfl) ?_
  exact HQ.out _ BB5.out _ _ _ _ _ _

set_option maxHeartbeats 2000000 in
set_option maxRecDepth 100000 in
theorem ref_r23e {bv n xb zb m ec : Nat} {hn cost l0 l1 y1 y2 : Int} {eA : Option Addr} {l : List K.V} {Q : Exit → Act → World → Prop} (hp : ∀ c (a : Act) (i : Nat) (v : Value) w, Q (.panic c) (a.put (some i) v) w → Q (.panic c) a w)
    {u0 u1 u2 u3 u5 u6 u7 u8 u9 u10 u11 u14 u15 u16 u17 u18 u19 u20 u21 u22 u23 u24 u25 u26 u27 u28 u29 u30 u31 u32 u33 u34 u35 u36 u37 u38 u39 u40 u41 u42 u43 u44 u45 u46 u47 u48 u49 u50 u51 u52 u53 u54 u55 u56 u57 u58 u59 u60 u61 u62 u63 u64 u65 u66 u67 u68 u69 u70 u71 u72 u73 u74 u75 u76 u77 u78 u79 u80 u81 u82 u83 u84 u85 u86 u87 u88 u89 u90 u91 u92 u93 u94 u95 u96 u97 u98 u99 u100 u101 : Value} {wr : World} (hlt : y1 < 1099511627776) (XR : wr.rangeAt xb 0 [.int .i64 hn, .slice eA m ec, .int .i64 cost, .int .i64 l0, .int .i64 l1]) (X2 : wr.cell? ⟨xb, 2, none⟩ = some (.int .i64 cost)) (ZR : wr.rangeAt zb 0 [.int .i64 y1, .int .i64 y2]) (Z0 : wr.cell? ⟨zb, 0, none⟩ = some (.int .i64 y1)) (CT : Hid (Calls Try.prog 54 #[.agg #[.int .i64 hn, .slice eA m ec, .int .i64 cost, .int .i64 l0, .int .i64 l1], .slice (some ⟨bv, 0, none⟩) n n] wr.drew (TailsPost wr.drew l))) (C48 : Hid (∀ (W : World) (A : Option Addr) (c : Nat), ValsIn W A l → Calls Try.prog 48 #[.int .i64 cost, .slice A l.length c] W fun r w' => r = .returned (.agg #[.int .i64 y1, .int .i64 y2]) ∧ Below W.heap.size W w'))
    (hQ : ∀ (w8 : World), Below wr.heap.size wr w8 → ∀ (t82 t83 t84 t85 t86 t87 t88 t89 t90 t91 t92 t93 : Value), Q .normal { tmps := #[u0, u1, u2, u3, .slice (some ⟨bv, 0, none⟩) n n, u5, u6, u7, u8, u9, u10, u11, .pointer (some ⟨xb, 0, none⟩), .pointer (some ⟨zb, 0, none⟩), u14, u15, u16, u17, u18, u19, u20, u21, u22, u23, u24, u25, u26, u27, u28, u29, u30, u31, u32, u33, u34, u35, u36, u37, u38, u39, u40, u41, u42, u43, u44, u45, u46, u47, u48, u49, u50, u51, u52, u53, u54, u55, u56, u57, u58, u59, u60, u61, u62, u63, u64, u65, u66, u67, u68, u69, u70, u71, u72, u73, u74, u75, u76, u77, u78, u79, u80, u81, t82, t83, t84, t85, t86, t87, t88, t89, t90, t91, t92, t93, .bool true, u95, u96, u97, u98, u99, u100, u101], defers := [] } (w8)) :
    Code.wp Try.prog (reg (Try.f51) 23) Q { tmps := #[u0, u1, u2, u3, .slice (some ⟨bv, 0, none⟩) n n, u5, u6, u7, u8, u9, u10, u11, .pointer (some ⟨xb, 0, none⟩), .pointer (some ⟨zb, 0, none⟩), u14, u15, u16, u17, u18, u19, u20, u21, u22, u23, u24, u25, u26, u27, u28, u29, u30, u31, u32, u33, u34, u35, u36, u37, u38, u39, u40, u41, u42, u43, u44, u45, u46, u47, u48, u49, u50, u51, u52, u53, u54, u55, u56, u57, u58, u59, u60, u61, u62, u63, u64, u65, u66, u67, u68, u69, u70, u71, u72, u73, u74, u75, u76, u77, u78, u79, u80, u81, u82, u83, u84, u85, u86, u87, u88, u89, u90, u91, u92, u93, u94, u95, u96, u97, u98, u99, u100, u101], defers := [] } wr := by
  have HQ := Lib.hid hQ
  have HP := Lib.hid hp
  clear hQ hp
  have g0 : decide (y1 < 1099511627776) = true := decide_eq_true hlt
  clear hlt
  refine start_ (n := 13) (S := fun w' => w'.rangeAt xb 0 [.int .i64 hn, .slice eA m ec, .int .i64 cost, .int .i64 l0, .int .i64 l1] ∧ w'.cell? ⟨xb, 2, none⟩ = some (.int .i64 cost) ∧ w'.rangeAt zb 0 [.int .i64 y1, .int .i64 y2] ∧ w'.cell? ⟨zb, 0, none⟩ = some (.int .i64 y1)) (ds := []) #[false, false, false, false, false, false, false, false, false, false, false, false, false] (by kernel_rfl) rfl rfl ⟨XR, X2, ZR, Z0⟩ (fun hHeld => ?_)
  refine pure_ (i := 0) (N := some 82) (v := ?_) (a' := ?_) #[true, false, false, false, false, false, false, false, false, false, false, false, false] rfl rfl (by kernel_rfl) (fun c a w h => HP.out c a _ _ w h) (Or.inl ⟨by rfl, ?_⟩) ?_ ?_
  rotate_left
  · intro w'
    go_simp
    with_reducible rfl
  rotate_left
  · simp only [Act.put, List.setIfInBounds_toArray, List.set_cons_zero, List.set_cons_succ, i64_w, i32_w]
    rfl
  refine take_ (i := 1) (N := some 83) (v := ?_) (a' := ?_) #[true, true, false, false, false, false, false, false, false, false, false, false, false] rfl rfl (by kernel_rfl) (fun c a w h => HP.out c a _ _ w h) (Or.inl ⟨by rfl, ?_⟩) hHeld ?_ ?_
  rotate_left
  · rintro w' ⟨s0, s1, s2, s3⟩
    go_simp
    with_reducible rfl
  rotate_left
  · simp only [Act.put, List.setIfInBounds_toArray, List.set_cons_zero, List.set_cons_succ, i64_w, i32_w]
    rfl
  refine pure_ (i := 2) (N := some 84) (v := ?_) (a' := ?_) #[true, true, true, false, false, false, false, false, false, false, false, false, false] rfl rfl (by kernel_rfl) (fun c a w h => HP.out c a _ _ w h) (Or.inl ⟨by rfl, ?_⟩) ?_ ?_
  rotate_left
  · intro w'
    go_simp
    with_reducible rfl
  rotate_left
  · simp only [Act.put, List.setIfInBounds_toArray, List.set_cons_zero, List.set_cons_succ, i64_w, i32_w]
    rfl
  refine pure_ (i := 3) (N := some 85) (v := ?_) (a' := ?_) #[true, true, true, true, false, false, false, false, false, false, false, false, false] rfl rfl (by kernel_rfl) (fun c a w h => HP.out c a _ _ w h) (Or.inl ⟨by rfl, ?_⟩) ?_ ?_
  rotate_left
  · intro w'
    go_simp
    with_reducible rfl
  rotate_left
  · simp only [Act.put, List.setIfInBounds_toArray, List.set_cons_zero, List.set_cons_succ, i64_w, i32_w]
    rfl
  refine pure_ (i := 4) (N := some 86) (v := ?_) (a' := ?_) #[true, true, true, true, true, false, false, false, false, false, false, false, false] rfl rfl (by kernel_rfl) (fun c a w h => HP.out c a _ _ w h) (Or.inl ⟨by rfl, ?_⟩) ?_ ?_
  rotate_left
  · intro w'
    go_simp
    with_reducible rfl
  rotate_left
  · simp only [Act.put, List.setIfInBounds_toArray, List.set_cons_zero, List.set_cons_succ, i64_w, i32_w]
    rfl
  refine pure_ (i := 7) (N := some 89) (v := ?_) (a' := ?_) #[true, true, true, true, true, false, false, true, false, false, false, false, false] rfl rfl (by kernel_rfl) (fun c a w h => HP.out c a _ _ w h) (Or.inl ⟨by rfl, ?_⟩) ?_ ?_
  rotate_left
  · intro w'
    go_simp
    with_reducible rfl
  rotate_left
  · simp only [Act.put, List.setIfInBounds_toArray, List.set_cons_zero, List.set_cons_succ, i64_w, i32_w]
    rfl
  refine take_ (i := 5) (N := some 87) (v := ?_) (a' := ?_) #[true, true, true, true, true, true, false, true, false, false, false, false, false] rfl rfl (by kernel_rfl) (fun c a w h => HP.out c a _ _ w h) (Or.inl ⟨by rfl, ?_⟩) hHeld ?_ ?_
  rotate_left
  · rintro w' ⟨s0, s1, s2, s3⟩
    go_simp
    with_reducible rfl
  rotate_left
  · simp only [Act.put, List.setIfInBounds_toArray, List.set_cons_zero, List.set_cons_succ, i64_w, i32_w]
    rfl
  refine take_ (i := 6) (N := some 88) (a' := ?_) #[true, true, true, true, true, true, true, true, false, false, false, false, false] rfl rfl (by kernel_rfl) (fun c a w h => HP.out c a _ _ w h) (yieldsIf_load_mid (by rfl) 60 _ rfl xb 0 (by rfl) [.int .i64 hn, .slice eA m ec, .int .i64 cost, .int .i64 l0, .int .i64 l1] _ (fun w' h => h.1) Try.underlying60 rfl (by kernel_rfl)) hHeld ?_ ?_
  rotate_left
  · simp only [Act.put, List.setIfInBounds_toArray, List.set_cons_zero, List.set_cons_succ, i64_w, i32_w]
    rfl
  refine take_ (i := 10) (N := some 92) (a' := ?_) #[true, true, true, true, true, true, true, true, false, false, true, false, false] rfl rfl (by kernel_rfl) (fun c a w h => HP.out c a _ _ w h) (yieldsIf_load_mid (by rfl) 54 _ rfl zb 0 (by rfl) [.int .i64 y1, .int .i64 y2] _ (fun w' h => h.2.2.1) Try.underlying54 rfl (by kernel_rfl)) hHeld ?_ ?_
  rotate_left
  · simp only [Act.put, List.setIfInBounds_toArray, List.set_cons_zero, List.set_cons_succ, i64_w, i32_w]
    rfl
  refine one_ (i := 8) (N := some 90) #[true, true, true, true, true, true, true, true, true, false, true, false, false] rfl rfl (by kernel_rfl) (by decide) (fun K hK => ?_)
  refine goesV_ Try.func54 (by kernel_rfl) rfl #[.agg #[.int .i64 hn, .slice eA m ec, .int .i64 cost, .int .i64 l0, .int .i64 l1], .slice (some ⟨bv, 0, none⟩) n n] (by rfl) rfl rfl (by rfl) (by simp only [List.map_toArray, List.map_cons, List.map_nil]; rfl) ?_
  with_reducible refine (CT.out).mono ?_
  rintro r w4 ⟨A', c', rfl, hv4, b4⟩
  have BB4 : Hid (Below wr.heap.size wr w4) := (Below.refl _ _).drew.trans b4
  have HV4 := Lib.hid hv4
  have e4 := Eff.of_below b4 (fun _ => False)
  clear hv4 b4
  refine ⟨_, rfl, ?_⟩
  refine hK.out _ _ ⟨(rangeAt_eff hHeld.1 e4 (fun h => h)), (Eff.cell e4 hHeld.2.1 (fun h => h)), (rangeAt_eff hHeld.2.2.1 e4 (fun h => h)), (Eff.cell e4 hHeld.2.2.2 (fun h => h))⟩ (fun hHeld => ?_)
  clear hK K
  refine norm_ (a' := ?_) ?_ ?_
  rotate_left
  · show Act.put _ (some 90) _ = _
    simp only [Act.put, List.setIfInBounds_toArray, List.set_cons_zero, List.set_cons_succ, i64_w, i32_w]
    rfl
  refine one_ (i := 9) (N := some 91) #[true, true, true, true, true, true, true, true, true, true, true, false, false] rfl rfl (by kernel_rfl) (by decide) (fun K hK => ?_)
  refine goesV_ Try.func48 (by kernel_rfl) rfl #[.int .i64 cost, .slice A' l.length c'] (by rfl) rfl rfl (by rfl) (by simp only [List.map_toArray, List.map_cons, List.map_nil]; rfl) ?_
  with_reducible refine (C48.out _ A' c' HV4.out).mono ?_
  rintro r w5 ⟨rfl, b5⟩
  have BB5 : Hid (Below wr.heap.size wr w5) := BB4.out.trans (b5.mono BB4.out.size)
  have e5 := Eff.of_below b5 (fun _ => False)
  clear b5
  refine ⟨_, rfl, ?_⟩
  refine hK.out _ _ ⟨(rangeAt_eff hHeld.1 e5 (fun h => h)), (Eff.cell e5 hHeld.2.1 (fun h => h)), (rangeAt_eff hHeld.2.2.1 e5 (fun h => h)), (Eff.cell e5 hHeld.2.2.2 (fun h => h))⟩ (fun hHeld => ?_)
  clear hK K
  refine norm_ (a' := ?_) ?_ ?_
  rotate_left
  · show Act.put _ (some 91) _ = _
    simp only [Act.put, List.setIfInBounds_toArray, List.set_cons_zero, List.set_cons_succ, i64_w, i32_w]
    rfl
  refine pure_ (i := 11) (N := some 93) (v := ?_) (a' := ?_) #[true, true, true, true, true, true, true, true, true, true, true, true, false] rfl rfl (by kernel_rfl) (fun c a w h => HP.out c a _ _ w h) (Or.inl ⟨by rfl, ?_⟩) ?_ ?_
  rotate_left
  · intro w'
    go_simp
    with_reducible rfl
  rotate_left
  · simp only [Act.put, List.setIfInBounds_toArray, List.set_cons_zero, List.set_cons_succ, i64_w, i32_w]
    rfl
  refine pure_ (i := 12) (N := some 94) (v := ?_) (a' := ?_) #[true, true, true, true, true, true, true, true, true, true, true, true, true] rfl rfl (by kernel_rfl) (fun c a w h => HP.out c a _ _ w h) (Or.inl ⟨by rfl, ?_⟩) ?_ ?_
  rotate_left
  · intro w'
    go_simp
    with_reducible rfl
  rotate_left
  · simp only [Act.put, List.setIfInBounds_toArray, List.set_cons_zero, List.set_cons_succ, i64_w, i32_w]
    rfl
  refine done_ (by kernel_rfl) ?_
  exact HQ.out _ BB5.out _ _ _ _ _ _ _ _ _ _ _ _

set_option maxHeartbeats 2000000 in
set_option maxRecDepth 100000 in
theorem ref_r23n {bv n xb zb m ec : Nat} {hn cost l0 l1 y1 y2 a1 a2 : Int} {eA : Option Addr} {l : List K.V} {Q : Exit → Act → World → Prop} (hp : ∀ c (a : Act) (i : Nat) (v : Value) w, Q (.panic c) (a.put (some i) v) w → Q (.panic c) a w)
    {u0 u1 u2 u3 u5 u6 u7 u8 u9 u10 u11 u14 u15 u16 u17 u18 u19 u20 u21 u22 u23 u24 u25 u26 u27 u28 u29 u30 u31 u32 u33 u34 u35 u36 u37 u38 u39 u40 u41 u42 u43 u44 u45 u46 u47 u48 u49 u50 u51 u52 u53 u54 u55 u56 u57 u58 u59 u60 u61 u62 u63 u64 u65 u66 u67 u68 u69 u70 u71 u72 u73 u74 u75 u76 u77 u78 u79 u80 u81 u82 u83 u84 u85 u86 u87 u88 u89 u90 u91 u92 u93 u94 u95 u96 u97 u98 u99 u100 u101 : Value} {wr : World} (hlt : a1 < 1099511627776) (g3 : (y1 == a1) = false) (XR : wr.rangeAt xb 0 [.int .i64 hn, .slice eA m ec, .int .i64 cost, .int .i64 l0, .int .i64 l1]) (X2 : wr.cell? ⟨xb, 2, none⟩ = some (.int .i64 cost)) (ZR : wr.rangeAt zb 0 [.int .i64 a1, .int .i64 a2]) (Z0 : wr.cell? ⟨zb, 0, none⟩ = some (.int .i64 a1)) (CT : Hid (Calls Try.prog 54 #[.agg #[.int .i64 hn, .slice eA m ec, .int .i64 cost, .int .i64 l0, .int .i64 l1], .slice (some ⟨bv, 0, none⟩) n n] wr.drew (TailsPost wr.drew l))) (C48 : Hid (∀ (W : World) (A : Option Addr) (c : Nat), ValsIn W A l → Calls Try.prog 48 #[.int .i64 cost, .slice A l.length c] W fun r w' => r = .returned (.agg #[.int .i64 y1, .int .i64 y2]) ∧ Below W.heap.size W w'))
    (hQ : ∀ (w8 : World), Below wr.heap.size wr w8 → ∀ (t82 t83 t84 t85 t86 t87 t88 t89 t90 t91 t92 t93 : Value), Q .normal { tmps := #[u0, u1, u2, u3, .slice (some ⟨bv, 0, none⟩) n n, u5, u6, u7, u8, u9, u10, u11, .pointer (some ⟨xb, 0, none⟩), .pointer (some ⟨zb, 0, none⟩), u14, u15, u16, u17, u18, u19, u20, u21, u22, u23, u24, u25, u26, u27, u28, u29, u30, u31, u32, u33, u34, u35, u36, u37, u38, u39, u40, u41, u42, u43, u44, u45, u46, u47, u48, u49, u50, u51, u52, u53, u54, u55, u56, u57, u58, u59, u60, u61, u62, u63, u64, u65, u66, u67, u68, u69, u70, u71, u72, u73, u74, u75, u76, u77, u78, u79, u80, u81, t82, t83, t84, t85, t86, t87, t88, t89, t90, t91, t92, t93, .bool false, u95, u96, u97, u98, u99, u100, u101], defers := [] } (w8)) :
    Code.wp Try.prog (reg (Try.f51) 23) Q { tmps := #[u0, u1, u2, u3, .slice (some ⟨bv, 0, none⟩) n n, u5, u6, u7, u8, u9, u10, u11, .pointer (some ⟨xb, 0, none⟩), .pointer (some ⟨zb, 0, none⟩), u14, u15, u16, u17, u18, u19, u20, u21, u22, u23, u24, u25, u26, u27, u28, u29, u30, u31, u32, u33, u34, u35, u36, u37, u38, u39, u40, u41, u42, u43, u44, u45, u46, u47, u48, u49, u50, u51, u52, u53, u54, u55, u56, u57, u58, u59, u60, u61, u62, u63, u64, u65, u66, u67, u68, u69, u70, u71, u72, u73, u74, u75, u76, u77, u78, u79, u80, u81, u82, u83, u84, u85, u86, u87, u88, u89, u90, u91, u92, u93, u94, u95, u96, u97, u98, u99, u100, u101], defers := [] } wr := by
  have HQ := Lib.hid hQ
  have HP := Lib.hid hp
  clear hQ hp
  have g0 : decide (a1 < 1099511627776) = true := decide_eq_true hlt
  clear hlt
  refine start_ (n := 13) (S := fun w' => w'.rangeAt xb 0 [.int .i64 hn, .slice eA m ec, .int .i64 cost, .int .i64 l0, .int .i64 l1] ∧ w'.cell? ⟨xb, 2, none⟩ = some (.int .i64 cost) ∧ w'.rangeAt zb 0 [.int .i64 a1, .int .i64 a2] ∧ w'.cell? ⟨zb, 0, none⟩ = some (.int .i64 a1)) (ds := []) #[false, false, false, false, false, false, false, false, false, false, false, false, false] (by kernel_rfl) rfl rfl ⟨XR, X2, ZR, Z0⟩ (fun hHeld => ?_)
  refine pure_ (i := 0) (N := some 82) (v := ?_) (a' := ?_) #[true, false, false, false, false, false, false, false, false, false, false, false, false] rfl rfl (by kernel_rfl) (fun c a w h => HP.out c a _ _ w h) (Or.inl ⟨by rfl, ?_⟩) ?_ ?_
  rotate_left
  · intro w'
    go_simp
    with_reducible rfl
  rotate_left
  · simp only [Act.put, List.setIfInBounds_toArray, List.set_cons_zero, List.set_cons_succ, i64_w, i32_w]
    rfl
  refine take_ (i := 1) (N := some 83) (v := ?_) (a' := ?_) #[true, true, false, false, false, false, false, false, false, false, false, false, false] rfl rfl (by kernel_rfl) (fun c a w h => HP.out c a _ _ w h) (Or.inl ⟨by rfl, ?_⟩) hHeld ?_ ?_
  rotate_left
  · rintro w' ⟨s0, s1, s2, s3⟩
    go_simp
    with_reducible rfl
  rotate_left
  · simp only [Act.put, List.setIfInBounds_toArray, List.set_cons_zero, List.set_cons_succ, i64_w, i32_w]
    rfl
  refine pure_ (i := 2) (N := some 84) (v := ?_) (a' := ?_) #[true, true, true, false, false, false, false, false, false, false, false, false, false] rfl rfl (by kernel_rfl) (fun c a w h => HP.out c a _ _ w h) (Or.inl ⟨by rfl, ?_⟩) ?_ ?_
  rotate_left
  · intro w'
    go_simp
    with_reducible rfl
  rotate_left
  · simp only [Act.put, List.setIfInBounds_toArray, List.set_cons_zero, List.set_cons_succ, i64_w, i32_w]
    rfl
  refine pure_ (i := 3) (N := some 85) (v := ?_) (a' := ?_) #[true, true, true, true, false, false, false, false, false, false, false, false, false] rfl rfl (by kernel_rfl) (fun c a w h => HP.out c a _ _ w h) (Or.inl ⟨by rfl, ?_⟩) ?_ ?_
  rotate_left
  · intro w'
    go_simp
    with_reducible rfl
  rotate_left
  · simp only [Act.put, List.setIfInBounds_toArray, List.set_cons_zero, List.set_cons_succ, i64_w, i32_w]
    rfl
  refine pure_ (i := 4) (N := some 86) (v := ?_) (a' := ?_) #[true, true, true, true, true, false, false, false, false, false, false, false, false] rfl rfl (by kernel_rfl) (fun c a w h => HP.out c a _ _ w h) (Or.inl ⟨by rfl, ?_⟩) ?_ ?_
  rotate_left
  · intro w'
    go_simp
    with_reducible rfl
  rotate_left
  · simp only [Act.put, List.setIfInBounds_toArray, List.set_cons_zero, List.set_cons_succ, i64_w, i32_w]
    rfl
  refine pure_ (i := 7) (N := some 89) (v := ?_) (a' := ?_) #[true, true, true, true, true, false, false, true, false, false, false, false, false] rfl rfl (by kernel_rfl) (fun c a w h => HP.out c a _ _ w h) (Or.inl ⟨by rfl, ?_⟩) ?_ ?_
  rotate_left
  · intro w'
    go_simp
    with_reducible rfl
  rotate_left
  · simp only [Act.put, List.setIfInBounds_toArray, List.set_cons_zero, List.set_cons_succ, i64_w, i32_w]
    rfl
  refine take_ (i := 5) (N := some 87) (v := ?_) (a' := ?_) #[true, true, true, true, true, true, false, true, false, false, false, false, false] rfl rfl (by kernel_rfl) (fun c a w h => HP.out c a _ _ w h) (Or.inl ⟨by rfl, ?_⟩) hHeld ?_ ?_
  rotate_left
  · rintro w' ⟨s0, s1, s2, s3⟩
    go_simp
    with_reducible rfl
  rotate_left
  · simp only [Act.put, List.setIfInBounds_toArray, List.set_cons_zero, List.set_cons_succ, i64_w, i32_w]
    rfl
  refine take_ (i := 6) (N := some 88) (a' := ?_) #[true, true, true, true, true, true, true, true, false, false, false, false, false] rfl rfl (by kernel_rfl) (fun c a w h => HP.out c a _ _ w h) (yieldsIf_load_mid (by rfl) 60 _ rfl xb 0 (by rfl) [.int .i64 hn, .slice eA m ec, .int .i64 cost, .int .i64 l0, .int .i64 l1] _ (fun w' h => h.1) Try.underlying60 rfl (by kernel_rfl)) hHeld ?_ ?_
  rotate_left
  · simp only [Act.put, List.setIfInBounds_toArray, List.set_cons_zero, List.set_cons_succ, i64_w, i32_w]
    rfl
  refine take_ (i := 10) (N := some 92) (a' := ?_) #[true, true, true, true, true, true, true, true, false, false, true, false, false] rfl rfl (by kernel_rfl) (fun c a w h => HP.out c a _ _ w h) (yieldsIf_load_mid (by rfl) 54 _ rfl zb 0 (by rfl) [.int .i64 a1, .int .i64 a2] _ (fun w' h => h.2.2.1) Try.underlying54 rfl (by kernel_rfl)) hHeld ?_ ?_
  rotate_left
  · simp only [Act.put, List.setIfInBounds_toArray, List.set_cons_zero, List.set_cons_succ, i64_w, i32_w]
    rfl
  refine one_ (i := 8) (N := some 90) #[true, true, true, true, true, true, true, true, true, false, true, false, false] rfl rfl (by kernel_rfl) (by decide) (fun K hK => ?_)
  refine goesV_ Try.func54 (by kernel_rfl) rfl #[.agg #[.int .i64 hn, .slice eA m ec, .int .i64 cost, .int .i64 l0, .int .i64 l1], .slice (some ⟨bv, 0, none⟩) n n] (by rfl) rfl rfl (by rfl) (by simp only [List.map_toArray, List.map_cons, List.map_nil]; rfl) ?_
  with_reducible refine (CT.out).mono ?_
  rintro r w4 ⟨A', c', rfl, hv4, b4⟩
  have BB4 : Hid (Below wr.heap.size wr w4) := (Below.refl _ _).drew.trans b4
  have HV4 := Lib.hid hv4
  have e4 := Eff.of_below b4 (fun _ => False)
  clear hv4 b4
  refine ⟨_, rfl, ?_⟩
  refine hK.out _ _ ⟨(rangeAt_eff hHeld.1 e4 (fun h => h)), (Eff.cell e4 hHeld.2.1 (fun h => h)), (rangeAt_eff hHeld.2.2.1 e4 (fun h => h)), (Eff.cell e4 hHeld.2.2.2 (fun h => h))⟩ (fun hHeld => ?_)
  clear hK K
  refine norm_ (a' := ?_) ?_ ?_
  rotate_left
  · show Act.put _ (some 90) _ = _
    simp only [Act.put, List.setIfInBounds_toArray, List.set_cons_zero, List.set_cons_succ, i64_w, i32_w]
    rfl
  refine one_ (i := 9) (N := some 91) #[true, true, true, true, true, true, true, true, true, true, true, false, false] rfl rfl (by kernel_rfl) (by decide) (fun K hK => ?_)
  refine goesV_ Try.func48 (by kernel_rfl) rfl #[.int .i64 cost, .slice A' l.length c'] (by rfl) rfl rfl (by rfl) (by simp only [List.map_toArray, List.map_cons, List.map_nil]; rfl) ?_
  with_reducible refine (C48.out _ A' c' HV4.out).mono ?_
  rintro r w5 ⟨rfl, b5⟩
  have BB5 : Hid (Below wr.heap.size wr w5) := BB4.out.trans (b5.mono BB4.out.size)
  have e5 := Eff.of_below b5 (fun _ => False)
  clear b5
  refine ⟨_, rfl, ?_⟩
  refine hK.out _ _ ⟨(rangeAt_eff hHeld.1 e5 (fun h => h)), (Eff.cell e5 hHeld.2.1 (fun h => h)), (rangeAt_eff hHeld.2.2.1 e5 (fun h => h)), (Eff.cell e5 hHeld.2.2.2 (fun h => h))⟩ (fun hHeld => ?_)
  clear hK K
  refine norm_ (a' := ?_) ?_ ?_
  rotate_left
  · show Act.put _ (some 91) _ = _
    simp only [Act.put, List.setIfInBounds_toArray, List.set_cons_zero, List.set_cons_succ, i64_w, i32_w]
    rfl
  refine pure_ (i := 11) (N := some 93) (v := ?_) (a' := ?_) #[true, true, true, true, true, true, true, true, true, true, true, true, false] rfl rfl (by kernel_rfl) (fun c a w h => HP.out c a _ _ w h) (Or.inl ⟨by rfl, ?_⟩) ?_ ?_
  rotate_left
  · intro w'
    go_simp
    with_reducible rfl
  rotate_left
  · simp only [Act.put, List.setIfInBounds_toArray, List.set_cons_zero, List.set_cons_succ, i64_w, i32_w]
    rfl
  refine pure_ (i := 12) (N := some 94) (v := ?_) (a' := ?_) #[true, true, true, true, true, true, true, true, true, true, true, true, true] rfl rfl (by kernel_rfl) (fun c a w h => HP.out c a _ _ w h) (Or.inl ⟨by rfl, ?_⟩) ?_ ?_
  rotate_left
  · intro w'
    go_simp
    with_reducible rfl
  rotate_left
  · simp only [Act.put, List.setIfInBounds_toArray, List.set_cons_zero, List.set_cons_succ, i64_w, i32_w]
    rfl
  refine done_ (by kernel_rfl) ?_
  exact HQ.out _ BB5.out _ _ _ _ _ _ _ _ _ _ _ _

set_option maxHeartbeats 2000000 in
set_option maxRecDepth 100000 in
theorem ref_r23m {bv n xb zb m ec : Nat} {hn cost l0 l1 y1 y2 a1 a2 : Int} {eA : Option Addr} {l : List K.V} {Q : Exit → Act → World → Prop} (hp : ∀ c (a : Act) (i : Nat) (v : Value) w, Q (.panic c) (a.put (some i) v) w → Q (.panic c) a w)
    {u0 u1 u2 u3 u5 u6 u7 u8 u9 u10 u11 u14 u15 u16 u17 u18 u19 u20 u21 u22 u23 u24 u25 u26 u27 u28 u29 u30 u31 u32 u33 u34 u35 u36 u37 u38 u39 u40 u41 u42 u43 u44 u45 u46 u47 u48 u49 u50 u51 u52 u53 u54 u55 u56 u57 u58 u59 u60 u61 u62 u63 u64 u65 u66 u67 u68 u69 u70 u71 u72 u73 u74 u75 u76 u77 u78 u79 u80 u81 u82 u83 u84 u85 u86 u87 u88 u89 u90 u91 u92 u93 u94 u95 u96 u97 u98 u99 u100 u101 : Value} {wr : World} (hlt : a1 < 1099511627776) (g3 : (y1 == a1) = true) (g4 : (y2 == a2) = false) (XR : wr.rangeAt xb 0 [.int .i64 hn, .slice eA m ec, .int .i64 cost, .int .i64 l0, .int .i64 l1]) (X2 : wr.cell? ⟨xb, 2, none⟩ = some (.int .i64 cost)) (ZR : wr.rangeAt zb 0 [.int .i64 a1, .int .i64 a2]) (Z0 : wr.cell? ⟨zb, 0, none⟩ = some (.int .i64 a1)) (CT : Hid (Calls Try.prog 54 #[.agg #[.int .i64 hn, .slice eA m ec, .int .i64 cost, .int .i64 l0, .int .i64 l1], .slice (some ⟨bv, 0, none⟩) n n] wr.drew (TailsPost wr.drew l))) (C48 : Hid (∀ (W : World) (A : Option Addr) (c : Nat), ValsIn W A l → Calls Try.prog 48 #[.int .i64 cost, .slice A l.length c] W fun r w' => r = .returned (.agg #[.int .i64 y1, .int .i64 y2]) ∧ Below W.heap.size W w'))
    (hQ : ∀ (w8 : World), Below wr.heap.size wr w8 → ∀ (t82 t83 t84 t85 t86 t87 t88 t89 t90 t91 t92 t93 : Value), Q .normal { tmps := #[u0, u1, u2, u3, .slice (some ⟨bv, 0, none⟩) n n, u5, u6, u7, u8, u9, u10, u11, .pointer (some ⟨xb, 0, none⟩), .pointer (some ⟨zb, 0, none⟩), u14, u15, u16, u17, u18, u19, u20, u21, u22, u23, u24, u25, u26, u27, u28, u29, u30, u31, u32, u33, u34, u35, u36, u37, u38, u39, u40, u41, u42, u43, u44, u45, u46, u47, u48, u49, u50, u51, u52, u53, u54, u55, u56, u57, u58, u59, u60, u61, u62, u63, u64, u65, u66, u67, u68, u69, u70, u71, u72, u73, u74, u75, u76, u77, u78, u79, u80, u81, t82, t83, t84, t85, t86, t87, t88, t89, t90, t91, t92, t93, .bool false, u95, u96, u97, u98, u99, u100, u101], defers := [] } (w8)) :
    Code.wp Try.prog (reg (Try.f51) 23) Q { tmps := #[u0, u1, u2, u3, .slice (some ⟨bv, 0, none⟩) n n, u5, u6, u7, u8, u9, u10, u11, .pointer (some ⟨xb, 0, none⟩), .pointer (some ⟨zb, 0, none⟩), u14, u15, u16, u17, u18, u19, u20, u21, u22, u23, u24, u25, u26, u27, u28, u29, u30, u31, u32, u33, u34, u35, u36, u37, u38, u39, u40, u41, u42, u43, u44, u45, u46, u47, u48, u49, u50, u51, u52, u53, u54, u55, u56, u57, u58, u59, u60, u61, u62, u63, u64, u65, u66, u67, u68, u69, u70, u71, u72, u73, u74, u75, u76, u77, u78, u79, u80, u81, u82, u83, u84, u85, u86, u87, u88, u89, u90, u91, u92, u93, u94, u95, u96, u97, u98, u99, u100, u101], defers := [] } wr := by
  have HQ := Lib.hid hQ
  have HP := Lib.hid hp
  clear hQ hp
  have g0 : decide (a1 < 1099511627776) = true := decide_eq_true hlt
  clear hlt
  refine start_ (n := 13) (S := fun w' => w'.rangeAt xb 0 [.int .i64 hn, .slice eA m ec, .int .i64 cost, .int .i64 l0, .int .i64 l1] ∧ w'.cell? ⟨xb, 2, none⟩ = some (.int .i64 cost) ∧ w'.rangeAt zb 0 [.int .i64 a1, .int .i64 a2] ∧ w'.cell? ⟨zb, 0, none⟩ = some (.int .i64 a1)) (ds := []) #[false, false, false, false, false, false, false, false, false, false, false, false, false] (by kernel_rfl) rfl rfl ⟨XR, X2, ZR, Z0⟩ (fun hHeld => ?_)
  refine pure_ (i := 0) (N := some 82) (v := ?_) (a' := ?_) #[true, false, false, false, false, false, false, false, false, false, false, false, false] rfl rfl (by kernel_rfl) (fun c a w h => HP.out c a _ _ w h) (Or.inl ⟨by rfl, ?_⟩) ?_ ?_
  rotate_left
  · intro w'
    go_simp
    with_reducible rfl
  rotate_left
  · simp only [Act.put, List.setIfInBounds_toArray, List.set_cons_zero, List.set_cons_succ, i64_w, i32_w]
    rfl
  refine take_ (i := 1) (N := some 83) (v := ?_) (a' := ?_) #[true, true, false, false, false, false, false, false, false, false, false, false, false] rfl rfl (by kernel_rfl) (fun c a w h => HP.out c a _ _ w h) (Or.inl ⟨by rfl, ?_⟩) hHeld ?_ ?_
  rotate_left
  · rintro w' ⟨s0, s1, s2, s3⟩
    go_simp
    with_reducible rfl
  rotate_left
  · simp only [Act.put, List.setIfInBounds_toArray, List.set_cons_zero, List.set_cons_succ, i64_w, i32_w]
    rfl
  refine pure_ (i := 2) (N := some 84) (v := ?_) (a' := ?_) #[true, true, true, false, false, false, false, false, false, false, false, false, false] rfl rfl (by kernel_rfl) (fun c a w h => HP.out c a _ _ w h) (Or.inl ⟨by rfl, ?_⟩) ?_ ?_
  rotate_left
  · intro w'
    go_simp
    with_reducible rfl
  rotate_left
  · simp only [Act.put, List.setIfInBounds_toArray, List.set_cons_zero, List.set_cons_succ, i64_w, i32_w]
    rfl
  refine pure_ (i := 3) (N := some 85) (v := ?_) (a' := ?_) #[true, true, true, true, false, false, false, false, false, false, false, false, false] rfl rfl (by kernel_rfl) (fun c a w h => HP.out c a _ _ w h) (Or.inl ⟨by rfl, ?_⟩) ?_ ?_
  rotate_left
  · intro w'
    go_simp
    with_reducible rfl
  rotate_left
  · simp only [Act.put, List.setIfInBounds_toArray, List.set_cons_zero, List.set_cons_succ, i64_w, i32_w]
    rfl
  refine pure_ (i := 4) (N := some 86) (v := ?_) (a' := ?_) #[true, true, true, true, true, false, false, false, false, false, false, false, false] rfl rfl (by kernel_rfl) (fun c a w h => HP.out c a _ _ w h) (Or.inl ⟨by rfl, ?_⟩) ?_ ?_
  rotate_left
  · intro w'
    go_simp
    with_reducible rfl
  rotate_left
  · simp only [Act.put, List.setIfInBounds_toArray, List.set_cons_zero, List.set_cons_succ, i64_w, i32_w]
    rfl
  refine pure_ (i := 7) (N := some 89) (v := ?_) (a' := ?_) #[true, true, true, true, true, false, false, true, false, false, false, false, false] rfl rfl (by kernel_rfl) (fun c a w h => HP.out c a _ _ w h) (Or.inl ⟨by rfl, ?_⟩) ?_ ?_
  rotate_left
  · intro w'
    go_simp
    with_reducible rfl
  rotate_left
  · simp only [Act.put, List.setIfInBounds_toArray, List.set_cons_zero, List.set_cons_succ, i64_w, i32_w]
    rfl
  refine take_ (i := 5) (N := some 87) (v := ?_) (a' := ?_) #[true, true, true, true, true, true, false, true, false, false, false, false, false] rfl rfl (by kernel_rfl) (fun c a w h => HP.out c a _ _ w h) (Or.inl ⟨by rfl, ?_⟩) hHeld ?_ ?_
  rotate_left
  · rintro w' ⟨s0, s1, s2, s3⟩
    go_simp
    with_reducible rfl
  rotate_left
  · simp only [Act.put, List.setIfInBounds_toArray, List.set_cons_zero, List.set_cons_succ, i64_w, i32_w]
    rfl
  refine take_ (i := 6) (N := some 88) (a' := ?_) #[true, true, true, true, true, true, true, true, false, false, false, false, false] rfl rfl (by kernel_rfl) (fun c a w h => HP.out c a _ _ w h) (yieldsIf_load_mid (by rfl) 60 _ rfl xb 0 (by rfl) [.int .i64 hn, .slice eA m ec, .int .i64 cost, .int .i64 l0, .int .i64 l1] _ (fun w' h => h.1) Try.underlying60 rfl (by kernel_rfl)) hHeld ?_ ?_
  rotate_left
  · simp only [Act.put, List.setIfInBounds_toArray, List.set_cons_zero, List.set_cons_succ, i64_w, i32_w]
    rfl
  refine take_ (i := 10) (N := some 92) (a' := ?_) #[true, true, true, true, true, true, true, true, false, false, true, false, false] rfl rfl (by kernel_rfl) (fun c a w h => HP.out c a _ _ w h) (yieldsIf_load_mid (by rfl) 54 _ rfl zb 0 (by rfl) [.int .i64 a1, .int .i64 a2] _ (fun w' h => h.2.2.1) Try.underlying54 rfl (by kernel_rfl)) hHeld ?_ ?_
  rotate_left
  · simp only [Act.put, List.setIfInBounds_toArray, List.set_cons_zero, List.set_cons_succ, i64_w, i32_w]
    rfl
  refine one_ (i := 8) (N := some 90) #[true, true, true, true, true, true, true, true, true, false, true, false, false] rfl rfl (by kernel_rfl) (by decide) (fun K hK => ?_)
  refine goesV_ Try.func54 (by kernel_rfl) rfl #[.agg #[.int .i64 hn, .slice eA m ec, .int .i64 cost, .int .i64 l0, .int .i64 l1], .slice (some ⟨bv, 0, none⟩) n n] (by rfl) rfl rfl (by rfl) (by simp only [List.map_toArray, List.map_cons, List.map_nil]; rfl) ?_
  with_reducible refine (CT.out).mono ?_
  rintro r w4 ⟨A', c', rfl, hv4, b4⟩
  have BB4 : Hid (Below wr.heap.size wr w4) := (Below.refl _ _).drew.trans b4
  have HV4 := Lib.hid hv4
  have e4 := Eff.of_below b4 (fun _ => False)
  clear hv4 b4
  refine ⟨_, rfl, ?_⟩
  refine hK.out _ _ ⟨(rangeAt_eff hHeld.1 e4 (fun h => h)), (Eff.cell e4 hHeld.2.1 (fun h => h)), (rangeAt_eff hHeld.2.2.1 e4 (fun h => h)), (Eff.cell e4 hHeld.2.2.2 (fun h => h))⟩ (fun hHeld => ?_)
  clear hK K
  refine norm_ (a' := ?_) ?_ ?_
  rotate_left
  · show Act.put _ (some 90) _ = _
    simp only [Act.put, List.setIfInBounds_toArray, List.set_cons_zero, List.set_cons_succ, i64_w, i32_w]
    rfl
  refine one_ (i := 9) (N := some 91) #[true, true, true, true, true, true, true, true, true, true, true, false, false] rfl rfl (by kernel_rfl) (by decide) (fun K hK => ?_)
  refine goesV_ Try.func48 (by kernel_rfl) rfl #[.int .i64 cost, .slice A' l.length c'] (by rfl) rfl rfl (by rfl) (by simp only [List.map_toArray, List.map_cons, List.map_nil]; rfl) ?_
  with_reducible refine (C48.out _ A' c' HV4.out).mono ?_
  rintro r w5 ⟨rfl, b5⟩
  have BB5 : Hid (Below wr.heap.size wr w5) := BB4.out.trans (b5.mono BB4.out.size)
  have e5 := Eff.of_below b5 (fun _ => False)
  clear b5
  refine ⟨_, rfl, ?_⟩
  refine hK.out _ _ ⟨(rangeAt_eff hHeld.1 e5 (fun h => h)), (Eff.cell e5 hHeld.2.1 (fun h => h)), (rangeAt_eff hHeld.2.2.1 e5 (fun h => h)), (Eff.cell e5 hHeld.2.2.2 (fun h => h))⟩ (fun hHeld => ?_)
  clear hK K
  refine norm_ (a' := ?_) ?_ ?_
  rotate_left
  · show Act.put _ (some 91) _ = _
    simp only [Act.put, List.setIfInBounds_toArray, List.set_cons_zero, List.set_cons_succ, i64_w, i32_w]
    rfl
  refine pure_ (i := 11) (N := some 93) (v := ?_) (a' := ?_) #[true, true, true, true, true, true, true, true, true, true, true, true, false] rfl rfl (by kernel_rfl) (fun c a w h => HP.out c a _ _ w h) (Or.inl ⟨by rfl, ?_⟩) ?_ ?_
  rotate_left
  · intro w'
    go_simp
    with_reducible rfl
  rotate_left
  · simp only [Act.put, List.setIfInBounds_toArray, List.set_cons_zero, List.set_cons_succ, i64_w, i32_w]
    rfl
  refine pure_ (i := 12) (N := some 94) (v := ?_) (a' := ?_) #[true, true, true, true, true, true, true, true, true, true, true, true, true] rfl rfl (by kernel_rfl) (fun c a w h => HP.out c a _ _ w h) (Or.inl ⟨by rfl, ?_⟩) ?_ ?_
  rotate_left
  · intro w'
    go_simp
    with_reducible rfl
  rotate_left
  · simp only [Act.put, List.setIfInBounds_toArray, List.set_cons_zero, List.set_cons_succ, i64_w, i32_w]
    rfl
  refine done_ (by kernel_rfl) ?_
  exact HQ.out _ BB5.out _ _ _ _ _ _ _ _ _ _ _ _
end Go.Proofs.Ytepfbhigeghjjaa.Q
