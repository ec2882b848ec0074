/- Regions of the reference's Solve. Solve of the reference: the walk. Small and Bounded of the references; two equal rows are told equal. Derivable of the reference of chapter 27. -/
import Derived.Test.YtepfbhigeghjjaaKT
import Derived.Test.YtepfbhigeghjjaaKB
import Derived.Test.YtepfbhigeghjjaaL43
import Derived.Test.YtepfbhigeghjjaaKJ
import Derived.Test.YtepfbhigeghjjaaKS
namespace Go.Proofs.Ytepfbhigeghjjaa.Q
open Go.RowKit Go.Proofs.YtepfbhigeghjjaaW.PrintLast
set_option linter.unusedVariables false
set_option linter.unusedSimpArgs false

theorem box54 (W : World) (a b : Int) : ((W.alloc (.cells #[.int .i64 0, .int .i64 0] 54)).setCells W.heap.size 0 [.int .i64 a, .int .i64 b]).heap[W.heap.size]? = some (.cells #[.int .i64 a, .int .i64 b] 54 (0, 0)) ∧ Below W.heap.size W ((W.alloc (.cells #[.int .i64 0, .int .i64 0] 54)).setCells W.heap.size 0 [.int .i64 a, .int .i64 b]) := by
  have e : (W.alloc (.cells #[.int .i64 0, .int .i64 0] 54)).setCells W.heap.size 0 [.int .i64 a, .int .i64 b] = ((W.alloc (.cells #[.int .i64 0, .int .i64 0] 54)).setCell ⟨W.heap.size, 0, none⟩ (.int .i64 a)).setCell ⟨W.heap.size, 0 + 1, none⟩ (.int .i64 b) := rfl
  rw [e]
  refine ⟨set_cell (set_cell (heap_alloc_new W _) 0 _) 1 _, ?_⟩
  exact (((Below.refl _ W).alloc (Nat.le_refl _) _).setCell (p := ⟨W.heap.size, 0, none⟩) (Nat.le_refl _) _).setCell (p := ⟨W.heap.size, 0 + 1, none⟩) (Nat.le_refl _) _
theorem box_set54 {wr W : World} {b : Nat} {u v : Value} (h : W.heap[b]? = some (.cells #[u, v] 54 (0, 0))) (hb : Below wr.heap.size wr W) (hl : wr.heap.size ≤ b) (x y : Int) : (W.setCells b 0 [.int .i64 x, .int .i64 y]).heap[b]? = some (.cells #[.int .i64 x, .int .i64 y] 54 (0, 0)) ∧ Below wr.heap.size wr (W.setCells b 0 [.int .i64 x, .int .i64 y]) := by
  have e : W.setCells b 0 [.int .i64 x, .int .i64 y] = (W.setCell ⟨b, 0, none⟩ (.int .i64 x)).setCell ⟨b, 0 + 1, none⟩ (.int .i64 y) := rfl
  rw [e]
  exact ⟨set_cell (set_cell h 0 _) 1 _, (hb.setCell (p := ⟨b, 0, none⟩) hl _).setCell (p := ⟨b, 0 + 1, none⟩) hl _⟩
set_option maxHeartbeats 2000000 in
set_option maxRecDepth 100000 in
theorem ref_r14 {bv n xb m ec : Nat} {hn cost l0 l1 y1 y2 : Int} {eA : Option Addr} {l : List K.V} {Q : Exit → Act → World → Prop} (hp : ∀ c (a : Act) (i : Nat) (v : Value) w, Q (.panic c) (a.put (some i) v) w → Q (.panic c) a w)
    {u0 u1 u2 u3 u5 u6 u7 u8 u10 u11 u12 u13 u14 u15 u16 u17 u18 u19 u20 u21 u22 u23 u24 u25 u26 u27 u28 u29 u30 u31 u32 u33 u34 u35 u36 u37 u38 u39 u40 u41 u42 u43 u44 u45 u46 u47 u48 u49 u50 u51 u52 u53 u54 u55 u56 u57 u58 u59 u60 u61 u62 u63 u64 u65 u66 u67 u68 u69 u70 u71 u72 u73 u74 u75 u76 u77 u78 u79 u80 u81 u82 u83 u84 u85 u86 u87 u88 u89 u90 u91 u92 u93 u94 u95 u96 u97 u98 u99 u100 u101 : Value} {wr : World} (XR : wr.rangeAt xb 0 [.int .i64 hn, .slice eA m ec, .int .i64 cost, .int .i64 l0, .int .i64 l1]) (X2 : wr.cell? ⟨xb, 2, none⟩ = some (.int .i64 cost)) (CT : Hid (∀ W : World, Below wr.heap.size wr W → Calls Try.prog 54 #[.agg #[.int .i64 hn, .slice eA m ec, .int .i64 cost, .int .i64 l0, .int .i64 l1], .slice (some ⟨bv, 0, none⟩) n n] W (TailsPost W l))) (C48 : Hid (∀ (W : World) (A : Option Addr) (c : Nat), ValsIn W A l → Calls Try.prog 48 #[.int .i64 cost, .slice A l.length c] W fun r w' => r = .returned (.agg #[.int .i64 y1, .int .i64 y2]) ∧ Below W.heap.size W w'))
    (hQ : ∀ (yb : Nat) (w8 : World), Below wr.heap.size wr w8 → w8.heap[yb]? = some (.cells #[.int .i64 y1, .int .i64 y2] 54 (0, 0)) → wr.heap.size ≤ yb → ∀ (t46 t47 t48 t49 t50 t51 : Value), Q .normal { tmps := #[u0, u1, u2, u3, .slice (some ⟨bv, 0, none⟩) n n, u5, u6, u7, u8, .pointer (some ⟨xb, 0, none⟩), .pointer (some ⟨yb, 0, none⟩), u11, u12, u13, u14, u15, u16, u17, u18, u19, u20, u21, u22, u23, u24, u25, u26, u27, u28, u29, u30, u31, u32, u33, u34, u35, u36, u37, u38, u39, u40, u41, u42, u43, u44, u45, t46, t47, t48, t49, t50, t51, u52, u53, u54, u55, u56, u57, u58, u59, u60, u61, u62, u63, u64, u65, u66, u67, u68, u69, u70, u71, u72, u73, u74, u75, u76, u77, u78, u79, u80, u81, u82, u83, u84, u85, u86, u87, u88, u89, u90, u91, u92, u93, u94, u95, u96, u97, u98, u99, u100, u101], defers := [] } (w8)) :
    Code.wp Try.prog (reg (Try.f51) 14) Q { tmps := #[u0, u1, u2, u3, .slice (some ⟨bv, 0, none⟩) n n, u5, u6, u7, u8, .pointer (some ⟨xb, 0, none⟩), u10, u11, u12, u13, u14, u15, u16, u17, u18, u19, u20, u21, u22, u23, u24, u25, u26, u27, u28, u29, u30, u31, u32, u33, u34, u35, u36, u37, u38, u39, u40, u41, u42, u43, u44, u45, u46, u47, u48, u49, u50, u51, u52, u53, u54, u55, u56, u57, u58, u59, u60, u61, u62, u63, u64, u65, u66, u67, u68, u69, u70, u71, u72, u73, u74, u75, u76, u77, u78, u79, u80, u81, u82, u83, u84, u85, u86, u87, u88, u89, u90, u91, u92, u93, u94, u95, u96, u97, u98, u99, u100, u101], defers := [] } wr := by
  have HQ := Lib.hid hQ
  have HP := Lib.hid hp
  clear hQ hp
  refine start_ (n := 8) (S := fun w' => w'.rangeAt xb 0 [.int .i64 hn, .slice eA m ec, .int .i64 cost, .int .i64 l0, .int .i64 l1] ∧ w'.cell? ⟨xb, 2, none⟩ = some (.int .i64 cost)) (ds := [7]) #[false, false, false, false, false, false, false, false] (by kernel_rfl) rfl rfl ⟨XR, X2⟩ (fun hHeld => ?_)
  refine pure_ (i := 0) (N := some 46) (v := ?_) (a' := ?_) #[true, false, false, false, false, false, false, false] rfl rfl (by kernel_rfl) (fun c a w h => HP.out c a _ _ w h) (Or.inl ⟨by rfl, ?_⟩) ?_ ?_
  rotate_left
  · intro w'
    go_simp
    with_reducible rfl
  rotate_left
  · simp only [Act.put, List.setIfInBounds_toArray, List.set_cons_zero, List.set_cons_succ, i64_w, i32_w]
    rfl
  refine pure_ (i := 3) (N := some 49) (v := ?_) (a' := ?_) #[true, false, false, true, false, false, false, false] rfl rfl (by kernel_rfl) (fun c a w h => HP.out c a _ _ w h) (Or.inl ⟨by rfl, ?_⟩) ?_ ?_
  rotate_left
  · intro w'
    go_simp
    with_reducible rfl
  rotate_left
  · simp only [Act.put, List.setIfInBounds_toArray, List.set_cons_zero, List.set_cons_succ, i64_w, i32_w]
    rfl
  refine take_ (i := 1) (N := some 47) (v := ?_) (a' := ?_) #[true, true, false, true, false, false, false, false] rfl rfl (by kernel_rfl) (fun c a w h => HP.out c a _ _ w h) (Or.inl ⟨by rfl, ?_⟩) hHeld ?_ ?_
  rotate_left
  · rintro w' ⟨s0, s1⟩
    go_simp
    with_reducible rfl
  rotate_left
  · simp only [Act.put, List.setIfInBounds_toArray, List.set_cons_zero, List.set_cons_succ, i64_w, i32_w]
    rfl
  refine take_ (i := 2) (N := some 48) (a' := ?_) #[true, true, true, true, false, false, false, false] rfl rfl (by kernel_rfl) (fun c a w h => HP.out c a _ _ w h) (yieldsIf_load_mid (by rfl) 60 _ rfl xb 0 (by rfl) [.int .i64 hn, .slice eA m ec, .int .i64 cost, .int .i64 l0, .int .i64 l1] _ (fun w' h => h.1) Try.underlying60 rfl (by kernel_rfl)) hHeld ?_ ?_
  rotate_left
  · simp only [Act.put, List.setIfInBounds_toArray, List.set_cons_zero, List.set_cons_succ, i64_w, i32_w]
    rfl
  refine join_ (σ := Nat × Option Addr × Nat) 1 #[true, true, true, true, true, true, true, false] (fun s => [(50, .slice s.2.1 l.length s.2.2), (51, .agg #[.int .i64 y1, .int .i64 y2]), (10, .pointer (some ⟨s.1, 0, none⟩))]) (fun s w' => w'.heap[s.1]? = some (.cells #[.int .i64 0, .int .i64 0] 54 (0, 0)) ∧ Below wr.heap.size wr w' ∧ wr.heap.size ≤ s.1 ∧ (w'.rangeAt xb 0 [.int .i64 hn, .slice eA m ec, .int .i64 cost, .int .i64 l0, .int .i64 l1] ∧ w'.cell? ⟨xb, 2, none⟩ = some (.int .i64 cost))) ?_ ?_
  rotate_left
  · intro hCont
    refine two_ (i := 4) (j := 6) (Ni := some 50) (Nj := some 10) #[true, true, true, true, true, false, false, false] #[true, true, true, true, false, false, true, false] rfl rfl rfl rfl (by kernel_rfl) (by decide) (by decide) (fun K hK => ?_) (fun K hK => ?_)
    · skip
      refine goesV_ Try.func54 (by kernel_rfl) rfl #[.agg #[.int .i64 hn, .slice eA m ec, .int .i64 cost, .int .i64 l0, .int .i64 l1], .slice (some ⟨bv, 0, none⟩) n n] (by rfl) rfl rfl (by rfl) (by simp only [List.map_toArray, List.map_cons, List.map_nil]; rfl) ?_
      with_reducible refine (CT.out (wr.drew) ((Below.refl wr.heap.size wr).drew)).mono ?_
      rintro r w4 ⟨A', c', rfl, hv4, b4⟩
      have BB4 : Hid (Below wr.heap.size wr w4) := ((Below.refl wr.heap.size wr).drew).trans (b4.mono ((Below.refl wr.heap.size wr).drew).size)
      have HV4 := Lib.hid hv4
      have e4 := Eff.of_below b4 (fun _ => False)
      clear hv4 b4
      refine ⟨_, rfl, ?_⟩
      refine hK.out _ _ ⟨(rangeAt_eff hHeld.1 e4 (fun h => h)), (e4.cell hHeld.2 (fun h => h))⟩ (fun hHeld => ?_)
      clear hK K
      refine norm_ (a' := ?_) ?_ ?_
      rotate_left
      · show Act.put _ (some 50) _ = _
        simp only [Act.put, List.setIfInBounds_toArray, List.set_cons_zero, List.set_cons_succ, i64_w, i32_w]
        rfl
      refine two_ (i := 5) (j := 6) (Ni := some 51) (Nj := some 10) #[true, true, true, true, true, true, false, false] #[true, true, true, true, true, false, true, false] rfl rfl rfl rfl (by kernel_rfl) (by decide) (by decide) (fun K hK => ?_) (fun K hK => ?_)
      · skip
        refine goesV_ Try.func48 (by kernel_rfl) rfl #[.int .i64 cost, .slice A' l.length c'] (by rfl) rfl rfl (by rfl) (by simp only [List.map_toArray, List.map_cons, List.map_nil]; rfl) ?_
        with_reducible refine (C48.out (w4) A' c' HV4.out).mono ?_
        rintro r w5 ⟨rfl, b5⟩
        have BB5 : Hid (Below wr.heap.size wr w5) := (BB4.out).trans (b5.mono (BB4.out).size)
        have e5 := Eff.of_below b5 (fun _ => False)
        clear b5
        refine ⟨_, rfl, ?_⟩
        refine hK.out _ _ ⟨(rangeAt_eff hHeld.1 e5 (fun h => h)), (e5.cell hHeld.2 (fun h => h))⟩ (fun hHeld => ?_)
        clear hK K
        refine norm_ (a' := ?_) ?_ ?_
        rotate_left
        · show Act.put _ (some 51) _ = _
          simp only [Act.put, List.setIfInBounds_toArray, List.set_cons_zero, List.set_cons_succ, i64_w, i32_w]
          rfl
        refine one_ (i := 6) (N := some 10) #[true, true, true, true, true, true, true, false] rfl rfl (by kernel_rfl) (by decide) (fun K hK => ?_)
        refine value_ (w1 := ?_) (v := ?_) (by rfl) rfl ?_ ?_
        rotate_left 2
        · go_simp
          constructor
          · rfl
          · rfl
        refine hK.out _ _ ⟨(rangeAt_eff hHeld.1 (eff_alloc _ _) (fun h => h)), ((eff_alloc _ _).cell hHeld.2 (fun h => h))⟩ (fun hHeld => ?_)
        clear hK K
        refine norm_ (a' := ?_) ?_ ?_
        rotate_left
        · show Act.put _ (some 10) _ = _
          simp only [Act.put, List.setIfInBounds_toArray, List.set_cons_zero, List.set_cons_succ, i64_w, i32_w]
          rfl
        exact norm_ (by simp only [putAll, Act.put, List.setIfInBounds_toArray, List.set_cons_zero, List.set_cons_succ]) (hCont (w5.heap.size, A', c') _ ⟨heap_alloc_new w5 _, ((BB5.out).alloc (BB5.out).size _), (BB5.out).size, hHeld⟩)
      · skip
        refine value_ (w1 := ?_) (v := ?_) (by rfl) rfl ?_ ?_
        rotate_left 2
        · go_simp
          constructor
          · rfl
          · rfl
        refine hK.out _ _ ⟨(rangeAt_eff hHeld.1 (eff_alloc _ _) (fun h => h)), ((eff_alloc _ _).cell hHeld.2 (fun h => h))⟩ (fun hHeld => ?_)
        clear hK K
        refine norm_ (a' := ?_) ?_ ?_
        rotate_left
        · show Act.put _ (some 10) _ = _
          simp only [Act.put, List.setIfInBounds_toArray, List.set_cons_zero, List.set_cons_succ, i64_w, i32_w]
          rfl
        refine one_ (i := 5) (N := some 51) #[true, true, true, true, true, true, true, false] rfl rfl (by kernel_rfl) (by decide) (fun K hK => ?_)
        refine goesV_ Try.func48 (by kernel_rfl) rfl #[.int .i64 cost, .slice A' l.length c'] (by rfl) rfl rfl (by rfl) (by simp only [List.map_toArray, List.map_cons, List.map_nil]; rfl) ?_
        with_reducible refine (C48.out ((w4.alloc (.cells #[.int .i64 0, .int .i64 0] 54))) A' c' (HV4.out.below ((Below.refl _ _).alloc (Nat.le_refl _) _))).mono ?_
        rintro r w5 ⟨rfl, b5⟩
        have BB5 : Hid (Below wr.heap.size wr w5) := (((BB4.out).alloc (BB4.out).size _)).trans (b5.mono (((BB4.out).alloc (BB4.out).size _)).size)
        have e5 := Eff.of_below b5 (fun _ => False)
        have ZB5 := Lib.hid (below_heap b5 (heap_alloc_new w4 _))
        clear b5
        refine ⟨_, rfl, ?_⟩
        refine hK.out _ _ ⟨(rangeAt_eff hHeld.1 e5 (fun h => h)), (e5.cell hHeld.2 (fun h => h))⟩ (fun hHeld => ?_)
        clear hK K
        refine norm_ (a' := ?_) ?_ ?_
        rotate_left
        · show Act.put _ (some 51) _ = _
          simp only [Act.put, List.setIfInBounds_toArray, List.set_cons_zero, List.set_cons_succ, i64_w, i32_w]
          rfl
        exact norm_ (by simp only [putAll, Act.put, List.setIfInBounds_toArray, List.set_cons_zero, List.set_cons_succ]) (hCont (w4.heap.size, A', c') _ ⟨ZB5.out, BB5.out, (BB4.out).size, hHeld⟩)
    · skip
      refine value_ (w1 := ?_) (v := ?_) (by rfl) rfl ?_ ?_
      rotate_left 2
      · go_simp
        constructor
        · rfl
        · rfl
      refine hK.out _ _ ⟨(rangeAt_eff hHeld.1 (eff_alloc _ _) (fun h => h)), ((eff_alloc _ _).cell hHeld.2 (fun h => h))⟩ (fun hHeld => ?_)
      clear hK K
      refine norm_ (a' := ?_) ?_ ?_
      rotate_left
      · show Act.put _ (some 10) _ = _
        simp only [Act.put, List.setIfInBounds_toArray, List.set_cons_zero, List.set_cons_succ, i64_w, i32_w]
        rfl
      refine one_ (i := 4) (N := some 50) #[true, true, true, true, true, false, true, false] rfl rfl (by kernel_rfl) (by decide) (fun K hK => ?_)
      refine goesV_ Try.func54 (by kernel_rfl) rfl #[.agg #[.int .i64 hn, .slice eA m ec, .int .i64 cost, .int .i64 l0, .int .i64 l1], .slice (some ⟨bv, 0, none⟩) n n] (by rfl) rfl rfl (by rfl) (by simp only [List.map_toArray, List.map_cons, List.map_nil]; rfl) ?_
      with_reducible refine (CT.out ((wr.alloc (.cells #[.int .i64 0, .int .i64 0] 54)).drew) (((Below.refl wr.heap.size wr).alloc (Nat.le_refl _) _).drew)).mono ?_
      rintro r w4 ⟨A', c', rfl, hv4, b4⟩
      have BB4 : Hid (Below wr.heap.size wr w4) := (((Below.refl wr.heap.size wr).alloc (Nat.le_refl _) _).drew).trans (b4.mono (((Below.refl wr.heap.size wr).alloc (Nat.le_refl _) _).drew).size)
      have HV4 := Lib.hid hv4
      have e4 := Eff.of_below b4 (fun _ => False)
      have ZB4 := Lib.hid (below_heap b4 (heap_alloc_new wr _))
      clear hv4 b4
      refine ⟨_, rfl, ?_⟩
      refine hK.out _ _ ⟨(rangeAt_eff hHeld.1 e4 (fun h => h)), (e4.cell hHeld.2 (fun h => h))⟩ (fun hHeld => ?_)
      clear hK K
      refine norm_ (a' := ?_) ?_ ?_
      rotate_left
      · show Act.put _ (some 50) _ = _
        simp only [Act.put, List.setIfInBounds_toArray, List.set_cons_zero, List.set_cons_succ, i64_w, i32_w]
        rfl
      refine one_ (i := 5) (N := some 51) #[true, true, true, true, true, true, true, false] rfl rfl (by kernel_rfl) (by decide) (fun K hK => ?_)
      refine goesV_ Try.func48 (by kernel_rfl) rfl #[.int .i64 cost, .slice A' l.length c'] (by rfl) rfl rfl (by rfl) (by simp only [List.map_toArray, List.map_cons, List.map_nil]; rfl) ?_
      with_reducible refine (C48.out (w4) A' c' HV4.out).mono ?_
      rintro r w5 ⟨rfl, b5⟩
      have BB5 : Hid (Below wr.heap.size wr w5) := (BB4.out).trans (b5.mono (BB4.out).size)
      have e5 := Eff.of_below b5 (fun _ => False)
      have ZB5 := Lib.hid (below_heap b5 (ZB4.out))
      clear b5
      refine ⟨_, rfl, ?_⟩
      refine hK.out _ _ ⟨(rangeAt_eff hHeld.1 e5 (fun h => h)), (e5.cell hHeld.2 (fun h => h))⟩ (fun hHeld => ?_)
      clear hK K
      refine norm_ (a' := ?_) ?_ ?_
      rotate_left
      · show Act.put _ (some 51) _ = _
        simp only [Act.put, List.setIfInBounds_toArray, List.set_cons_zero, List.set_cons_succ, i64_w, i32_w]
        rfl
      exact norm_ (by simp only [putAll, Act.put, List.setIfInBounds_toArray, List.set_cons_zero, List.set_cons_succ]) (hCont (wr.heap.size, A', c') _ ⟨ZB5.out, BB5.out, ((Below.refl wr.heap.size wr).drew).size, hHeld⟩)
  rintro ⟨yb, A', c'⟩ w1 ⟨z1, z2, z3, hHeld⟩
  have XX := Lib.hid (And.intro z1 (And.intro z2 z3))
  clear z1 z2 z3
  refine norm_ (a' := ?_) ?_ ?_
  rotate_left
  · simp only [putAll, Act.put, List.setIfInBounds_toArray, List.set_cons_zero, List.set_cons_succ]
    rfl
  refine last_ (i := 7) (N := none) #[true, true, true, true, true, true, true, true] rfl rfl (by kernel_rfl) (by decide) (fun K hK => ?_)
  refine skip_ (w1 := w1.setCells yb 0 [.int .i64 y1, .int .i64 y2]) (by rfl) rfl (run_u (run_storeAt_mid _ yb 0 54 #[.int .i64 y1, .int .i64 y2] (box_there XX.out.1 rfl) (by kernel_rfl) (by kernel_rfl))) ?_
  refine hK.out _ _ ?_
  clear hK K
  refine done_ (by kernel_rfl) ?_
  exact HQ.out _ _ (box_set54 XX.out.1 XX.out.2.1 XX.out.2.2 y1 y2).2 (box_set54 XX.out.1 XX.out.2.1 XX.out.2.2 y1 y2).1 XX.out.2.2 _ _ _ _ _ _

set_option maxHeartbeats 2000000 in
set_option maxRecDepth 100000 in
theorem ref_r15 {bv n xb yb hn : Nat} {y1 y2 a1 a2 : Int} {L : Bool} {Q : Exit → Act → World → Prop} (hp : ∀ c (a : Act) (i : Nat) (v : Value) w, Q (.panic c) (a.put (some i) v) w → Q (.panic c) a w)
    {u0 u1 u2 u3 u5 u6 u7 u8 u11 u12 u13 u14 u15 u16 u17 u18 u19 u20 u21 u22 u23 u24 u25 u26 u27 u28 u29 u30 u31 u32 u33 u34 u35 u36 u37 u38 u39 u40 u41 u42 u43 u44 u45 u46 u47 u48 u49 u50 u51 u52 u53 u54 u55 u56 u57 u58 u59 u60 u61 u62 u63 u64 u65 u66 u67 u68 u69 u70 u71 u72 u73 u74 u75 u76 u77 u78 u79 u80 u81 u82 u83 u84 u85 u86 u87 u88 u89 u90 u91 u92 u93 u94 u95 u96 u97 u98 u99 u100 u101 : Value} {wr : World} (hL : decide (y1 < a1 ∨ y1 = a1 ∧ y2 < a2) = L) (hlz : (hn : Int) < (n : Int)) (YR : wr.rangeAt yb 0 [.int .i64 y1, .int .i64 y2]) (X0 : wr.cell? ⟨xb, 0, none⟩ = some (.int .i64 hn)) (VR : wr.rangeAt bv (hn * 2) [.int .i64 a1, .int .i64 a2])
    (hQ : ∀ (w8 : World), Below wr.heap.size wr w8 → ∀ (t52 t53 t54 t55 t56 t57 : Value), Q .normal { tmps := #[u0, u1, u2, u3, .slice (some ⟨bv, 0, none⟩) n n, u5, u6, u7, u8, .pointer (some ⟨xb, 0, none⟩), .pointer (some ⟨yb, 0, none⟩), u11, u12, u13, u14, u15, u16, u17, u18, u19, u20, u21, u22, u23, u24, u25, u26, u27, u28, u29, u30, u31, u32, u33, u34, u35, u36, u37, u38, u39, u40, u41, u42, u43, u44, u45, u46, u47, u48, u49, u50, u51, t52, t53, t54, t55, t56, t57, .bool L, u59, u60, u61, u62, u63, u64, u65, u66, u67, u68, u69, u70, u71, u72, u73, u74, u75, u76, u77, u78, u79, u80, u81, u82, u83, u84, u85, u86, u87, u88, u89, u90, u91, u92, u93, u94, u95, u96, u97, u98, u99, u100, u101], defers := [] } (w8)) :
    Code.wp Try.prog (reg (Try.f51) 15) Q { tmps := #[u0, u1, u2, u3, .slice (some ⟨bv, 0, none⟩) n n, u5, u6, u7, u8, .pointer (some ⟨xb, 0, none⟩), .pointer (some ⟨yb, 0, none⟩), u11, u12, u13, u14, u15, u16, u17, u18, u19, u20, u21, u22, u23, u24, u25, u26, u27, u28, u29, u30, u31, u32, u33, u34, u35, u36, u37, u38, u39, u40, u41, u42, u43, u44, u45, u46, u47, u48, u49, u50, u51, u52, u53, u54, u55, u56, u57, u58, u59, u60, u61, u62, u63, u64, u65, u66, u67, u68, u69, u70, u71, u72, u73, u74, u75, u76, u77, u78, u79, u80, u81, u82, u83, u84, u85, u86, u87, u88, u89, u90, u91, u92, u93, u94, u95, u96, u97, u98, u99, u100, u101], defers := [] } wr := by
  have HQ := Lib.hid hQ
  have HP := Lib.hid hp
  clear hQ hp
  have C43 : Hid (∀ W : World, Calls Try.prog 43 #[.agg #[.int .i64 y1, .int .i64 y2], .agg #[.int .i64 a1, .int .i64 a2]] W fun r w' => r = .returned (.bool L) ∧ Below W.heap.size W w') := fun W => by
    have := less43 y1 y2 a1 a2 W
    rwa [hL] at this
  clear hL
  refine start_ (n := 7) (S := fun w' => w'.rangeAt yb 0 [.int .i64 y1, .int .i64 y2] ∧ w'.cell? ⟨xb, 0, none⟩ = some (.int .i64 hn) ∧ w'.rangeAt bv (hn * 2) [.int .i64 a1, .int .i64 a2]) (ds := [6]) #[false, false, false, false, false, false, false] (by kernel_rfl) rfl rfl ⟨YR, X0, VR⟩ (fun hHeld => ?_)
  refine pure_ (i := 1) (N := some 53) (v := ?_) (a' := ?_) #[false, true, false, false, false, false, false] rfl rfl (by kernel_rfl) (fun c a w h => HP.out c a _ _ w h) (Or.inl ⟨by rfl, ?_⟩) ?_ ?_
  rotate_left
  · intro w'
    go_simp
    with_reducible rfl
  rotate_left
  · simp only [Act.put, List.setIfInBounds_toArray, List.set_cons_zero, List.set_cons_succ, i64_w, i32_w]
    rfl
  refine pure_ (i := 2) (N := some 54) (v := ?_) (a' := ?_) #[false, true, true, false, false, false, false] rfl rfl (by kernel_rfl) (fun c a w h => HP.out c a _ _ w h) (Or.inl ⟨by rfl, ?_⟩) ?_ ?_
  rotate_left
  · intro w'
    go_simp
    with_reducible rfl
  rotate_left
  · simp only [Act.put, List.setIfInBounds_toArray, List.set_cons_zero, List.set_cons_succ, i64_w, i32_w]
    rfl
  refine take_ (i := 0) (N := some 52) (a' := ?_) #[true, true, true, false, false, false, false] rfl rfl (by kernel_rfl) (fun c a w h => HP.out c a _ _ w h) (yieldsIf_load_mid (by rfl) 54 _ rfl yb 0 (by rfl) [.int .i64 y1, .int .i64 y2] _ (fun w' h => h.1) Try.underlying54 rfl (by kernel_rfl)) hHeld ?_ ?_
  rotate_left
  · simp only [Act.put, List.setIfInBounds_toArray, List.set_cons_zero, List.set_cons_succ, i64_w, i32_w]
    rfl
  refine take_ (i := 3) (N := some 55) (v := ?_) (a' := ?_) #[true, true, true, true, false, false, false] rfl rfl (by kernel_rfl) (fun c a w h => HP.out c a _ _ w h) (Or.inl ⟨by rfl, ?_⟩) hHeld ?_ ?_
  rotate_left
  · rintro w' ⟨s0, s1, s2⟩
    go_simp
    with_reducible rfl
  rotate_left
  · simp only [Act.put, List.setIfInBounds_toArray, List.set_cons_zero, List.set_cons_succ, i64_w, i32_w]
    rfl
  refine pure_ (i := 4) (N := some 56) (v := ?_) (a' := ?_) #[true, true, true, true, true, false, false] rfl rfl (by kernel_rfl) (fun c a w h => HP.out c a _ _ w h) (Or.inl ⟨by rfl, ?_⟩) ?_ ?_
  rotate_left
  · intro w'
    go_simp
    with_reducible rfl
  rotate_left
  · simp only [Act.put, List.setIfInBounds_toArray, List.set_cons_zero, List.set_cons_succ, i64_w, i32_w]
    rfl
  refine take_ (i := 5) (N := some 57) (a' := ?_) #[true, true, true, true, true, true, false] rfl rfl (by kernel_rfl) (fun c a w h => HP.out c a _ _ w h) (yieldsIf_load_mid (by rfl) 54 _ rfl bv (hn * 2) (by rfl) [.int .i64 a1, .int .i64 a2] _ (fun w' h => h.2.2) Try.underlying54 rfl (by kernel_rfl)) hHeld ?_ ?_
  rotate_left
  · simp only [Act.put, List.setIfInBounds_toArray, List.set_cons_zero, List.set_cons_succ, i64_w, i32_w]
    rfl
  refine last_ (i := 6) (N := some 58) #[true, true, true, true, true, true, true] rfl rfl (by kernel_rfl) (by decide) (fun K hK => ?_)
  refine goesV_ Try.func43 (by kernel_rfl) rfl #[.agg #[.int .i64 y1, .int .i64 y2], .agg #[.int .i64 a1, .int .i64 a2]] (by rfl) rfl rfl (by rfl) (by simp only [List.map_toArray, List.map_cons, List.map_nil]; rfl) ?_
  with_reducible refine (C43.out _).mono ?_
  rintro r w5 ⟨rfl, b5⟩
  have BB5 : Hid (Below wr.heap.size wr w5) := (Below.refl _ _).drew.trans b5
  clear b5
  refine ⟨_, rfl, ?_⟩
  refine hK.out _ _ ?_
  clear hK K
  refine norm_ (a' := ?_) ?_ ?_
  rotate_left
  · show Act.put _ (some 58) _ = _
    simp only [Act.put, List.setIfInBounds_toArray, List.set_cons_zero, List.set_cons_succ, i64_w, i32_w]
    rfl
  refine done_ (by kernel_rfl) ?_
  exact HQ.out _ BB5.out _ _ _ _ _ _

set_option maxHeartbeats 2000000 in
set_option maxRecDepth 100000 in
theorem ref_r23e {bv n xb zb m ec : Nat} {hn cost l0 l1 y1 y2 : Int} {eA : Option Addr} {l : List K.V} {Q : Exit → Act → World → Prop} (hp : ∀ c (a : Act) (i : Nat) (v : Value) w, Q (.panic c) (a.put (some i) v) w → Q (.panic c) a w)
    {u0 u1 u2 u3 u5 u6 u7 u8 u9 u10 u11 u14 u15 u16 u17 u18 u19 u20 u21 u22 u23 u24 u25 u26 u27 u28 u29 u30 u31 u32 u33 u34 u35 u36 u37 u38 u39 u40 u41 u42 u43 u44 u45 u46 u47 u48 u49 u50 u51 u52 u53 u54 u55 u56 u57 u58 u59 u60 u61 u62 u63 u64 u65 u66 u67 u68 u69 u70 u71 u72 u73 u74 u75 u76 u77 u78 u79 u80 u81 u82 u83 u84 u85 u86 u87 u88 u89 u90 u91 u92 u93 u94 u95 u96 u97 u98 u99 u100 u101 : Value} {wr : World} (hlt : y1 < 1099511627776) (XR : wr.rangeAt xb 0 [.int .i64 hn, .slice eA m ec, .int .i64 cost, .int .i64 l0, .int .i64 l1]) (X2 : wr.cell? ⟨xb, 2, none⟩ = some (.int .i64 cost)) (ZR : wr.rangeAt zb 0 [.int .i64 y1, .int .i64 y2]) (Z0 : wr.cell? ⟨zb, 0, none⟩ = some (.int .i64 y1)) (CT : Hid (Calls Try.prog 54 #[.agg #[.int .i64 hn, .slice eA m ec, .int .i64 cost, .int .i64 l0, .int .i64 l1], .slice (some ⟨bv, 0, none⟩) n n] wr.drew (TailsPost wr.drew l))) (C48 : Hid (∀ (W : World) (A : Option Addr) (c : Nat), ValsIn W A l → Calls Try.prog 48 #[.int .i64 cost, .slice A l.length c] W fun r w' => r = .returned (.agg #[.int .i64 y1, .int .i64 y2]) ∧ Below W.heap.size W w'))
    (hQ : ∀ (w8 : World), Below wr.heap.size wr w8 → ∀ (t82 t83 t84 t85 t86 t87 t88 t89 t90 t91 t92 t93 : Value), Q .normal { tmps := #[u0, u1, u2, u3, .slice (some ⟨bv, 0, none⟩) n n, u5, u6, u7, u8, u9, u10, u11, .pointer (some ⟨xb, 0, none⟩), .pointer (some ⟨zb, 0, none⟩), u14, u15, u16, u17, u18, u19, u20, u21, u22, u23, u24, u25, u26, u27, u28, u29, u30, u31, u32, u33, u34, u35, u36, u37, u38, u39, u40, u41, u42, u43, u44, u45, u46, u47, u48, u49, u50, u51, u52, u53, u54, u55, u56, u57, u58, u59, u60, u61, u62, u63, u64, u65, u66, u67, u68, u69, u70, u71, u72, u73, u74, u75, u76, u77, u78, u79, u80, u81, t82, t83, t84, t85, t86, t87, t88, t89, t90, t91, t92, t93, .bool true, u95, u96, u97, u98, u99, u100, u101], defers := [] } (w8)) :
    Code.wp Try.prog (reg (Try.f51) 23) Q { tmps := #[u0, u1, u2, u3, .slice (some ⟨bv, 0, none⟩) n n, u5, u6, u7, u8, u9, u10, u11, .pointer (some ⟨xb, 0, none⟩), .pointer (some ⟨zb, 0, none⟩), u14, u15, u16, u17, u18, u19, u20, u21, u22, u23, u24, u25, u26, u27, u28, u29, u30, u31, u32, u33, u34, u35, u36, u37, u38, u39, u40, u41, u42, u43, u44, u45, u46, u47, u48, u49, u50, u51, u52, u53, u54, u55, u56, u57, u58, u59, u60, u61, u62, u63, u64, u65, u66, u67, u68, u69, u70, u71, u72, u73, u74, u75, u76, u77, u78, u79, u80, u81, u82, u83, u84, u85, u86, u87, u88, u89, u90, u91, u92, u93, u94, u95, u96, u97, u98, u99, u100, u101], defers := [] } wr := by
  have HQ := Lib.hid hQ
  have HP := Lib.hid hp
  clear hQ hp
  have g0 : decide (y1 < 1099511627776) = true := decide_eq_true hlt
  clear hlt
  refine start_ (n := 13) (S := fun w' => w'.rangeAt xb 0 [.int .i64 hn, .slice eA m ec, .int .i64 cost, .int .i64 l0, .int .i64 l1] ∧ w'.cell? ⟨xb, 2, none⟩ = some (.int .i64 cost) ∧ w'.rangeAt zb 0 [.int .i64 y1, .int .i64 y2] ∧ w'.cell? ⟨zb, 0, none⟩ = some (.int .i64 y1)) (ds := []) #[false, false, false, false, false, false, false, false, false, false, false, false, false] (by kernel_rfl) rfl rfl ⟨XR, X2, ZR, Z0⟩ (fun hHeld => ?_)
  refine pure_ (i := 0) (N := some 82) (v := ?_) (a' := ?_) #[true, false, false, false, false, false, false, false, false, false, false, false, false] rfl rfl (by kernel_rfl) (fun c a w h => HP.out c a _ _ w h) (Or.inl ⟨by rfl, ?_⟩) ?_ ?_
  rotate_left
  · intro w'
    go_simp
    with_reducible rfl
  rotate_left
  · simp only [Act.put, List.setIfInBounds_toArray, List.set_cons_zero, List.set_cons_succ, i64_w, i32_w]
    rfl
  refine take_ (i := 1) (N := some 83) (v := ?_) (a' := ?_) #[true, true, false, false, false, false, false, false, false, false, false, false, false] rfl rfl (by kernel_rfl) (fun c a w h => HP.out c a _ _ w h) (Or.inl ⟨by rfl, ?_⟩) hHeld ?_ ?_
  rotate_left
  · rintro w' ⟨s0, s1, s2, s3⟩
    go_simp
    with_reducible rfl
  rotate_left
  · simp only [Act.put, List.setIfInBounds_toArray, List.set_cons_zero, List.set_cons_succ, i64_w, i32_w]
    rfl
  refine pure_ (i := 2) (N := some 84) (v := ?_) (a' := ?_) #[true, true, true, false, false, false, false, false, false, false, false, false, false] rfl rfl (by kernel_rfl) (fun c a w h => HP.out c a _ _ w h) (Or.inl ⟨by rfl, ?_⟩) ?_ ?_
  rotate_left
  · intro w'
    go_simp
    with_reducible rfl
  rotate_left
  · simp only [Act.put, List.setIfInBounds_toArray, List.set_cons_zero, List.set_cons_succ, i64_w, i32_w]
    rfl
  refine pure_ (i := 3) (N := some 85) (v := ?_) (a' := ?_) #[true, true, true, true, false, false, false, false, false, false, false, false, false] rfl rfl (by kernel_rfl) (fun c a w h => HP.out c a _ _ w h) (Or.inl ⟨by rfl, ?_⟩) ?_ ?_
  rotate_left
  · intro w'
    go_simp
    with_reducible rfl
  rotate_left
  · simp only [Act.put, List.setIfInBounds_toArray, List.set_cons_zero, List.set_cons_succ, i64_w, i32_w]
    rfl
  refine pure_ (i := 4) (N := some 86) (v := ?_) (a' := ?_) #[true, true, true, true, true, false, false, false, false, false, false, false, false] rfl rfl (by kernel_rfl) (fun c a w h => HP.out c a _ _ w h) (Or.inl ⟨by rfl, ?_⟩) ?_ ?_
  rotate_left
  · intro w'
    go_simp
    with_reducible rfl
  rotate_left
  · simp only [Act.put, List.setIfInBounds_toArray, List.set_cons_zero, List.set_cons_succ, i64_w, i32_w]
    rfl
  refine pure_ (i := 7) (N := some 89) (v := ?_) (a' := ?_) #[true, true, true, true, true, false, false, true, false, false, false, false, false] rfl rfl (by kernel_rfl) (fun c a w h => HP.out c a _ _ w h) (Or.inl ⟨by rfl, ?_⟩) ?_ ?_
  rotate_left
  · intro w'
    go_simp
    with_reducible rfl
  rotate_left
  · simp only [Act.put, List.setIfInBounds_toArray, List.set_cons_zero, List.set_cons_succ, i64_w, i32_w]
    rfl
  refine take_ (i := 5) (N := some 87) (v := ?_) (a' := ?_) #[true, true, true, true, true, true, false, true, false, false, false, false, false] rfl rfl (by kernel_rfl) (fun c a w h => HP.out c a _ _ w h) (Or.inl ⟨by rfl, ?_⟩) hHeld ?_ ?_
  rotate_left
  · rintro w' ⟨s0, s1, s2, s3⟩
    go_simp
    with_reducible rfl
  rotate_left
  · simp only [Act.put, List.setIfInBounds_toArray, List.set_cons_zero, List.set_cons_succ, i64_w, i32_w]
    rfl
  refine take_ (i := 6) (N := some 88) (a' := ?_) #[true, true, true, true, true, true, true, true, false, false, false, false, false] rfl rfl (by kernel_rfl) (fun c a w h => HP.out c a _ _ w h) (yieldsIf_load_mid (by rfl) 60 _ rfl xb 0 (by rfl) [.int .i64 hn, .slice eA m ec, .int .i64 cost, .int .i64 l0, .int .i64 l1] _ (fun w' h => h.1) Try.underlying60 rfl (by kernel_rfl)) hHeld ?_ ?_
  rotate_left
  · simp only [Act.put, List.setIfInBounds_toArray, List.set_cons_zero, List.set_cons_succ, i64_w, i32_w]
    rfl
  refine take_ (i := 10) (N := some 92) (a' := ?_) #[true, true, true, true, true, true, true, true, false, false, true, false, false] rfl rfl (by kernel_rfl) (fun c a w h => HP.out c a _ _ w h) (yieldsIf_load_mid (by rfl) 54 _ rfl zb 0 (by rfl) [.int .i64 y1, .int .i64 y2] _ (fun w' h => h.2.2.1) Try.underlying54 rfl (by kernel_rfl)) hHeld ?_ ?_
  rotate_left
  · simp only [Act.put, List.setIfInBounds_toArray, List.set_cons_zero, List.set_cons_succ, i64_w, i32_w]
    rfl
  refine one_ (i := 8) (N := some 90) #[true, true, true, true, true, true, true, true, true, false, true, false, false] rfl rfl (by kernel_rfl) (by decide) (fun K hK => ?_)
  refine goesV_ Try.func54 (by kernel_rfl) rfl #[.agg #[.int .i64 hn, .slice eA m ec, .int .i64 cost, .int .i64 l0, .int .i64 l1], .slice (some ⟨bv, 0, none⟩) n n] (by rfl) rfl rfl (by rfl) (by simp only [List.map_toArray, List.map_cons, List.map_nil]; rfl) ?_
  with_reducible refine (CT.out).mono ?_
  rintro r w4 ⟨A', c', rfl, hv4, b4⟩
  have BB4 : Hid (Below wr.heap.size wr w4) := (Below.refl _ _).drew.trans b4
  have HV4 := Lib.hid hv4
  have e4 := Eff.of_below b4 (fun _ => False)
  clear hv4 b4
  refine ⟨_, rfl, ?_⟩
  refine hK.out _ _ ⟨(rangeAt_eff hHeld.1 e4 (fun h => h)), (Eff.cell e4 hHeld.2.1 (fun h => h)), (rangeAt_eff hHeld.2.2.1 e4 (fun h => h)), (Eff.cell e4 hHeld.2.2.2 (fun h => h))⟩ (fun hHeld => ?_)
  clear hK K
  refine norm_ (a' := ?_) ?_ ?_
  rotate_left
  · show Act.put _ (some 90) _ = _
    simp only [Act.put, List.setIfInBounds_toArray, List.set_cons_zero, List.set_cons_succ, i64_w, i32_w]
    rfl
  refine one_ (i := 9) (N := some 91) #[true, true, true, true, true, true, true, true, true, true, true, false, false] rfl rfl (by kernel_rfl) (by decide) (fun K hK => ?_)
  refine goesV_ Try.func48 (by kernel_rfl) rfl #[.int .i64 cost, .slice A' l.length c'] (by rfl) rfl rfl (by rfl) (by simp only [List.map_toArray, List.map_cons, List.map_nil]; rfl) ?_
  with_reducible refine (C48.out _ A' c' HV4.out).mono ?_
  rintro r w5 ⟨rfl, b5⟩
  have BB5 : Hid (Below wr.heap.size wr w5) := BB4.out.trans (b5.mono BB4.out.size)
  have e5 := Eff.of_below b5 (fun _ => False)
  clear b5
  refine ⟨_, rfl, ?_⟩
  refine hK.out _ _ ⟨(rangeAt_eff hHeld.1 e5 (fun h => h)), (Eff.cell e5 hHeld.2.1 (fun h => h)), (rangeAt_eff hHeld.2.2.1 e5 (fun h => h)), (Eff.cell e5 hHeld.2.2.2 (fun h => h))⟩ (fun hHeld => ?_)
  clear hK K
  refine norm_ (a' := ?_) ?_ ?_
  rotate_left
  · show Act.put _ (some 91) _ = _
    simp only [Act.put, List.setIfInBounds_toArray, List.set_cons_zero, List.set_cons_succ, i64_w, i32_w]
    rfl
  refine pure_ (i := 11) (N := some 93) (v := ?_) (a' := ?_) #[true, true, true, true, true, true, true, true, true, true, true, true, false] rfl rfl (by kernel_rfl) (fun c a w h => HP.out c a _ _ w h) (Or.inl ⟨by rfl, ?_⟩) ?_ ?_
  rotate_left
  · intro w'
    go_simp
    with_reducible rfl
  rotate_left
  · simp only [Act.put, List.setIfInBounds_toArray, List.set_cons_zero, List.set_cons_succ, i64_w, i32_w]
    rfl
  refine pure_ (i := 12) (N := some 94) (v := ?_) (a' := ?_) #[true, true, true, true, true, true, true, true, true, true, true, true, true] rfl rfl (by kernel_rfl) (fun c a w h => HP.out c a _ _ w h) (Or.inl ⟨by rfl, ?_⟩) ?_ ?_
  rotate_left
  · intro w'
    go_simp
    with_reducible rfl
  rotate_left
  · simp only [Act.put, List.setIfInBounds_toArray, List.set_cons_zero, List.set_cons_succ, i64_w, i32_w]
    rfl
  refine done_ (by kernel_rfl) ?_
  exact HQ.out _ BB5.out _ _ _ _ _ _ _ _ _ _ _ _

set_option maxHeartbeats 2000000 in
set_option maxRecDepth 100000 in
theorem ref_r23n {bv n xb zb m ec : Nat} {hn cost l0 l1 y1 y2 a1 a2 : Int} {eA : Option Addr} {l : List K.V} {Q : Exit → Act → World → Prop} (hp : ∀ c (a : Act) (i : Nat) (v : Value) w, Q (.panic c) (a.put (some i) v) w → Q (.panic c) a w)
    {u0 u1 u2 u3 u5 u6 u7 u8 u9 u10 u11 u14 u15 u16 u17 u18 u19 u20 u21 u22 u23 u24 u25 u26 u27 u28 u29 u30 u31 u32 u33 u34 u35 u36 u37 u38 u39 u40 u41 u42 u43 u44 u45 u46 u47 u48 u49 u50 u51 u52 u53 u54 u55 u56 u57 u58 u59 u60 u61 u62 u63 u64 u65 u66 u67 u68 u69 u70 u71 u72 u73 u74 u75 u76 u77 u78 u79 u80 u81 u82 u83 u84 u85 u86 u87 u88 u89 u90 u91 u92 u93 u94 u95 u96 u97 u98 u99 u100 u101 : Value} {wr : World} (hlt : a1 < 1099511627776) (g3 : (y1 == a1) = false) (XR : wr.rangeAt xb 0 [.int .i64 hn, .slice eA m ec, .int .i64 cost, .int .i64 l0, .int .i64 l1]) (X2 : wr.cell? ⟨xb, 2, none⟩ = some (.int .i64 cost)) (ZR : wr.rangeAt zb 0 [.int .i64 a1, .int .i64 a2]) (Z0 : wr.cell? ⟨zb, 0, none⟩ = some (.int .i64 a1)) (CT : Hid (Calls Try.prog 54 #[.agg #[.int .i64 hn, .slice eA m ec, .int .i64 cost, .int .i64 l0, .int .i64 l1], .slice (some ⟨bv, 0, none⟩) n n] wr.drew (TailsPost wr.drew l))) (C48 : Hid (∀ (W : World) (A : Option Addr) (c : Nat), ValsIn W A l → Calls Try.prog 48 #[.int .i64 cost, .slice A l.length c] W fun r w' => r = .returned (.agg #[.int .i64 y1, .int .i64 y2]) ∧ Below W.heap.size W w'))
    (hQ : ∀ (w8 : World), Below wr.heap.size wr w8 → ∀ (t82 t83 t84 t85 t86 t87 t88 t89 t90 t91 t92 t93 : Value), Q .normal { tmps := #[u0, u1, u2, u3, .slice (some ⟨bv, 0, none⟩) n n, u5, u6, u7, u8, u9, u10, u11, .pointer (some ⟨xb, 0, none⟩), .pointer (some ⟨zb, 0, none⟩), u14, u15, u16, u17, u18, u19, u20, u21, u22, u23, u24, u25, u26, u27, u28, u29, u30, u31, u32, u33, u34, u35, u36, u37, u38, u39, u40, u41, u42, u43, u44, u45, u46, u47, u48, u49, u50, u51, u52, u53, u54, u55, u56, u57, u58, u59, u60, u61, u62, u63, u64, u65, u66, u67, u68, u69, u70, u71, u72, u73, u74, u75, u76, u77, u78, u79, u80, u81, t82, t83, t84, t85, t86, t87, t88, t89, t90, t91, t92, t93, .bool false, u95, u96, u97, u98, u99, u100, u101], defers := [] } (w8)) :
    Code.wp Try.prog (reg (Try.f51) 23) Q { tmps := #[u0, u1, u2, u3, .slice (some ⟨bv, 0, none⟩) n n, u5, u6, u7, u8, u9, u10, u11, .pointer (some ⟨xb, 0, none⟩), .pointer (some ⟨zb, 0, none⟩), u14, u15, u16, u17, u18, u19, u20, u21, u22, u23, u24, u25, u26, u27, u28, u29, u30, u31, u32, u33, u34, u35, u36, u37, u38, u39, u40, u41, u42, u43, u44, u45, u46, u47, u48, u49, u50, u51, u52, u53, u54, u55, u56, u57, u58, u59, u60, u61, u62, u63, u64, u65, u66, u67, u68, u69, u70, u71, u72, u73, u74, u75, u76, u77, u78, u79, u80, u81, u82, u83, u84, u85, u86, u87, u88, u89, u90, u91, u92, u93, u94, u95, u96, u97, u98, u99, u100, u101], defers := [] } wr := by
  have HQ := Lib.hid hQ
  have HP := Lib.hid hp
  clear hQ hp
  have g0 : decide (a1 < 1099511627776) = true := decide_eq_true hlt
  clear hlt
  refine start_ (n := 13) (S := fun w' => w'.rangeAt xb 0 [.int .i64 hn, .slice eA m ec, .int .i64 cost, .int .i64 l0, .int .i64 l1] ∧ w'.cell? ⟨xb, 2, none⟩ = some (.int .i64 cost) ∧ w'.rangeAt zb 0 [.int .i64 a1, .int .i64 a2] ∧ w'.cell? ⟨zb, 0, none⟩ = some (.int .i64 a1)) (ds := []) #[false, false, false, false, false, false, false, false, false, false, false, false, false] (by kernel_rfl) rfl rfl ⟨XR, X2, ZR, Z0⟩ (fun hHeld => ?_)
  refine pure_ (i := 0) (N := some 82) (v := ?_) (a' := ?_) #[true, false, false, false, false, false, false, false, false, false, false, false, false] rfl rfl (by kernel_rfl) (fun c a w h => HP.out c a _ _ w h) (Or.inl ⟨by rfl, ?_⟩) ?_ ?_
  rotate_left
  · intro w'
    go_simp
    with_reducible rfl
  rotate_left
  · simp only [Act.put, List.setIfInBounds_toArray, List.set_cons_zero, List.set_cons_succ, i64_w, i32_w]
    rfl
  refine take_ (i := 1) (N := some 83) (v := ?_) (a' := ?_) #[true, true, false, false, false, false, false, false, false, false, false, false, false] rfl rfl (by kernel_rfl) (fun c a w h => HP.out c a _ _ w h) (Or.inl ⟨by rfl, ?_⟩) hHeld ?_ ?_
  rotate_left
  · rintro w' ⟨s0, s1, s2, s3⟩
    go_simp
    with_reducible rfl
  rotate_left
  · simp only [Act.put, List.setIfInBounds_toArray, List.set_cons_zero, List.set_cons_succ, i64_w, i32_w]
    rfl
  refine pure_ (i := 2) (N := some 84) (v := ?_) (a' := ?_) #[true, true, true, false, false, false, false, false, false, false, false, false, false] rfl rfl (by kernel_rfl) (fun c a w h => HP.out c a _ _ w h) (Or.inl ⟨by rfl, ?_⟩) ?_ ?_
  rotate_left
  · intro w'
    go_simp
    with_reducible rfl
  rotate_left
  · simp only [Act.put, List.setIfInBounds_toArray, List.set_cons_zero, List.set_cons_succ, i64_w, i32_w]
    rfl
  refine pure_ (i := 3) (N := some 85) (v := ?_) (a' := ?_) #[true, true, true, true, false, false, false, false, false, false, false, false, false] rfl rfl (by kernel_rfl) (fun c a w h => HP.out c a _ _ w h) (Or.inl ⟨by rfl, ?_⟩) ?_ ?_
  rotate_left
  · intro w'
    go_simp
    with_reducible rfl
  rotate_left
  · simp only [Act.put, List.setIfInBounds_toArray, List.set_cons_zero, List.set_cons_succ, i64_w, i32_w]
    rfl
  refine pure_ (i := 4) (N := some 86) (v := ?_) (a' := ?_) #[true, true, true, true, true, false, false, false, false, false, false, false, false] rfl rfl (by kernel_rfl) (fun c a w h => HP.out c a _ _ w h) (Or.inl ⟨by rfl, ?_⟩) ?_ ?_
  rotate_left
  · intro w'
    go_simp
    with_reducible rfl
  rotate_left
  · simp only [Act.put, List.setIfInBounds_toArray, List.set_cons_zero, List.set_cons_succ, i64_w, i32_w]
    rfl
  refine pure_ (i := 7) (N := some 89) (v := ?_) (a' := ?_) #[true, true, true, true, true, false, false, true, false, false, false, false, false] rfl rfl (by kernel_rfl) (fun c a w h => HP.out c a _ _ w h) (Or.inl ⟨by rfl, ?_⟩) ?_ ?_
  rotate_left
  · intro w'
    go_simp
    with_reducible rfl
  rotate_left
  · simp only [Act.put, List.setIfInBounds_toArray, List.set_cons_zero, List.set_cons_succ, i64_w, i32_w]
    rfl
  refine take_ (i := 5) (N := some 87) (v := ?_) (a' := ?_) #[true, true, true, true, true, true, false, true, false, false, false, false, false] rfl rfl (by kernel_rfl) (fun c a w h => HP.out c a _ _ w h) (Or.inl ⟨by rfl, ?_⟩) hHeld ?_ ?_
  rotate_left
  · rintro w' ⟨s0, s1, s2, s3⟩
    go_simp
    with_reducible rfl
  rotate_left
  · simp only [Act.put, List.setIfInBounds_toArray, List.set_cons_zero, List.set_cons_succ, i64_w, i32_w]
    rfl
  refine take_ (i := 6) (N := some 88) (a' := ?_) #[true, true, true, true, true, true, true, true, false, false, false, false, false] rfl rfl (by kernel_rfl) (fun c a w h => HP.out c a _ _ w h) (yieldsIf_load_mid (by rfl) 60 _ rfl xb 0 (by rfl) [.int .i64 hn, .slice eA m ec, .int .i64 cost, .int .i64 l0, .int .i64 l1] _ (fun w' h => h.1) Try.underlying60 rfl (by kernel_rfl)) hHeld ?_ ?_
  rotate_left
  · simp only [Act.put, List.setIfInBounds_toArray, List.set_cons_zero, List.set_cons_succ, i64_w, i32_w]
    rfl
  refine take_ (i := 10) (N := some 92) (a' := ?_) #[true, true, true, true, true, true, true, true, false, false, true, false, false] rfl rfl (by kernel_rfl) (fun c a w h => HP.out c a _ _ w h) (yieldsIf_load_mid (by rfl) 54 _ rfl zb 0 (by rfl) [.int .i64 a1, .int .i64 a2] _ (fun w' h => h.2.2.1) Try.underlying54 rfl (by kernel_rfl)) hHeld ?_ ?_
  rotate_left
  · simp only [Act.put, List.setIfInBounds_toArray, List.set_cons_zero, List.set_cons_succ, i64_w, i32_w]
    rfl
  refine one_ (i := 8) (N := some 90) #[true, true, true, true, true, true, true, true, true, false, true, false, false] rfl rfl (by kernel_rfl) (by decide) (fun K hK => ?_)
  refine goesV_ Try.func54 (by kernel_rfl) rfl #[.agg #[.int .i64 hn, .slice eA m ec, .int .i64 cost, .int .i64 l0, .int .i64 l1], .slice (some ⟨bv, 0, none⟩) n n] (by rfl) rfl rfl (by rfl) (by simp only [List.map_toArray, List.map_cons, List.map_nil]; rfl) ?_
  with_reducible refine (CT.out).mono ?_
  rintro r w4 ⟨A', c', rfl, hv4, b4⟩
  have BB4 : Hid (Below wr.heap.size wr w4) := (Below.refl _ _).drew.trans b4
  have HV4 := Lib.hid hv4
  have e4 := Eff.of_below b4 (fun _ => False)
  clear hv4 b4
  refine ⟨_, rfl, ?_⟩
  refine hK.out _ _ ⟨(rangeAt_eff hHeld.1 e4 (fun h => h)), (Eff.cell e4 hHeld.2.1 (fun h => h)), (rangeAt_eff hHeld.2.2.1 e4 (fun h => h)), (Eff.cell e4 hHeld.2.2.2 (fun h => h))⟩ (fun hHeld => ?_)
  clear hK K
  refine norm_ (a' := ?_) ?_ ?_
  rotate_left
  · show Act.put _ (some 90) _ = _
    simp only [Act.put, List.setIfInBounds_toArray, List.set_cons_zero, List.set_cons_succ, i64_w, i32_w]
    rfl
  refine one_ (i := 9) (N := some 91) #[true, true, true, true, true, true, true, true, true, true, true, false, false] rfl rfl (by kernel_rfl) (by decide) (fun K hK => ?_)
  refine goesV_ Try.func48 (by kernel_rfl) rfl #[.int .i64 cost, .slice A' l.length c'] (by rfl) rfl rfl (by rfl) (by simp only [List.map_toArray, List.map_cons, List.map_nil]; rfl) ?_
  with_reducible refine (C48.out _ A' c' HV4.out).mono ?_
  rintro r w5 ⟨rfl, b5⟩
  have BB5 : Hid (Below wr.heap.size wr w5) := BB4.out.trans (b5.mono BB4.out.size)
  have e5 := Eff.of_below b5 (fun _ => False)
  clear b5
  refine ⟨_, rfl, ?_⟩
  refine hK.out _ _ ⟨(rangeAt_eff hHeld.1 e5 (fun h => h)), (Eff.cell e5 hHeld.2.1 (fun h => h)), (rangeAt_eff hHeld.2.2.1 e5 (fun h => h)), (Eff.cell e5 hHeld.2.2.2 (fun h => h))⟩ (fun hHeld => ?_)
  clear hK K
  refine norm_ (a' := ?_) ?_ ?_
  rotate_left
  · show Act.put _ (some 91) _ = _
    simp only [Act.put, List.setIfInBounds_toArray, List.set_cons_zero, List.set_cons_succ, i64_w, i32_w]
    rfl
  refine pure_ (i := 11) (N := some 93) (v := ?_) (a' := ?_) #[true, true, true, true, true, true, true, true, true, true, true, true, false] rfl rfl (by kernel_rfl) (fun c a w h => HP.out c a _ _ w h) (Or.inl ⟨by rfl, ?_⟩) ?_ ?_
  rotate_left
  · intro w'
    go_simp
    with_reducible rfl
  rotate_left
  · simp only [Act.put, List.setIfInBounds_toArray, List.set_cons_zero, List.set_cons_succ, i64_w, i32_w]
    rfl
  refine pure_ (i := 12) (N := some 94) (v := ?_) (a' := ?_) #[true, true, true, true, true, true, true, true, true, true, true, true, true] rfl rfl (by kernel_rfl) (fun c a w h => HP.out c a _ _ w h) (Or.inl ⟨by rfl, ?_⟩) ?_ ?_
  rotate_left
  · intro w'
    go_simp
    with_reducible rfl
  rotate_left
  · simp only [Act.put, List.setIfInBounds_toArray, List.set_cons_zero, List.set_cons_succ, i64_w, i32_w]
    rfl
  refine done_ (by kernel_rfl) ?_
  exact HQ.out _ BB5.out _ _ _ _ _ _ _ _ _ _ _ _

set_option maxHeartbeats 2000000 in
set_option maxRecDepth 100000 in
theorem ref_r23m {bv n xb zb m ec : Nat} {hn cost l0 l1 y1 y2 a1 a2 : Int} {eA : Option Addr} {l : List K.V} {Q : Exit → Act → World → Prop} (hp : ∀ c (a : Act) (i : Nat) (v : Value) w, Q (.panic c) (a.put (some i) v) w → Q (.panic c) a w)
    {u0 u1 u2 u3 u5 u6 u7 u8 u9 u10 u11 u14 u15 u16 u17 u18 u19 u20 u21 u22 u23 u24 u25 u26 u27 u28 u29 u30 u31 u32 u33 u34 u35 u36 u37 u38 u39 u40 u41 u42 u43 u44 u45 u46 u47 u48 u49 u50 u51 u52 u53 u54 u55 u56 u57 u58 u59 u60 u61 u62 u63 u64 u65 u66 u67 u68 u69 u70 u71 u72 u73 u74 u75 u76 u77 u78 u79 u80 u81 u82 u83 u84 u85 u86 u87 u88 u89 u90 u91 u92 u93 u94 u95 u96 u97 u98 u99 u100 u101 : Value} {wr : World} (hlt : a1 < 1099511627776) (g3 : (y1 == a1) = true) (g4 : (y2 == a2) = false) (XR : wr.rangeAt xb 0 [.int .i64 hn, .slice eA m ec, .int .i64 cost, .int .i64 l0, .int .i64 l1]) (X2 : wr.cell? ⟨xb, 2, none⟩ = some (.int .i64 cost)) (ZR : wr.rangeAt zb 0 [.int .i64 a1, .int .i64 a2]) (Z0 : wr.cell? ⟨zb, 0, none⟩ = some (.int .i64 a1)) (CT : Hid (Calls Try.prog 54 #[.agg #[.int .i64 hn, .slice eA m ec, .int .i64 cost, .int .i64 l0, .int .i64 l1], .slice (some ⟨bv, 0, none⟩) n n] wr.drew (TailsPost wr.drew l))) (C48 : Hid (∀ (W : World) (A : Option Addr) (c : Nat), ValsIn W A l → Calls Try.prog 48 #[.int .i64 cost, .slice A l.length c] W fun r w' => r = .returned (.agg #[.int .i64 y1, .int .i64 y2]) ∧ Below W.heap.size W w'))
    (hQ : ∀ (w8 : World), Below wr.heap.size wr w8 → ∀ (t82 t83 t84 t85 t86 t87 t88 t89 t90 t91 t92 t93 : Value), Q .normal { tmps := #[u0, u1, u2, u3, .slice (some ⟨bv, 0, none⟩) n n, u5, u6, u7, u8, u9, u10, u11, .pointer (some ⟨xb, 0, none⟩), .pointer (some ⟨zb, 0, none⟩), u14, u15, u16, u17, u18, u19, u20, u21, u22, u23, u24, u25, u26, u27, u28, u29, u30, u31, u32, u33, u34, u35, u36, u37, u38, u39, u40, u41, u42, u43, u44, u45, u46, u47, u48, u49, u50, u51, u52, u53, u54, u55, u56, u57, u58, u59, u60, u61, u62, u63, u64, u65, u66, u67, u68, u69, u70, u71, u72, u73, u74, u75, u76, u77, u78, u79, u80, u81, t82, t83, t84, t85, t86, t87, t88, t89, t90, t91, t92, t93, .bool false, u95, u96, u97, u98, u99, u100, u101], defers := [] } (w8)) :
    Code.wp Try.prog (reg (Try.f51) 23) Q { tmps := #[u0, u1, u2, u3, .slice (some ⟨bv, 0, none⟩) n n, u5, u6, u7, u8, u9, u10, u11, .pointer (some ⟨xb, 0, none⟩), .pointer (some ⟨zb, 0, none⟩), u14, u15, u16, u17, u18, u19, u20, u21, u22, u23, u24, u25, u26, u27, u28, u29, u30, u31, u32, u33, u34, u35, u36, u37, u38, u39, u40, u41, u42, u43, u44, u45, u46, u47, u48, u49, u50, u51, u52, u53, u54, u55, u56, u57, u58, u59, u60, u61, u62, u63, u64, u65, u66, u67, u68, u69, u70, u71, u72, u73, u74, u75, u76, u77, u78, u79, u80, u81, u82, u83, u84, u85, u86, u87, u88, u89, u90, u91, u92, u93, u94, u95, u96, u97, u98, u99, u100, u101], defers := [] } wr := by
  have HQ := Lib.hid hQ
  have HP := Lib.hid hp
  clear hQ hp
  have g0 : decide (a1 < 1099511627776) = true := decide_eq_true hlt
  clear hlt
  refine start_ (n := 13) (S := fun w' => w'.rangeAt xb 0 [.int .i64 hn, .slice eA m ec, .int .i64 cost, .int .i64 l0, .int .i64 l1] ∧ w'.cell? ⟨xb, 2, none⟩ = some (.int .i64 cost) ∧ w'.rangeAt zb 0 [.int .i64 a1, .int .i64 a2] ∧ w'.cell? ⟨zb, 0, none⟩ = some (.int .i64 a1)) (ds := []) #[false, false, false, false, false, false, false, false, false, false, false, false, false] (by kernel_rfl) rfl rfl ⟨XR, X2, ZR, Z0⟩ (fun hHeld => ?_)
  refine pure_ (i := 0) (N := some 82) (v := ?_) (a' := ?_) #[true, false, false, false, false, false, false, false, false, false, false, false, false] rfl rfl (by kernel_rfl) (fun c a w h => HP.out c a _ _ w h) (Or.inl ⟨by rfl, ?_⟩) ?_ ?_
  rotate_left
  · intro w'
    go_simp
    with_reducible rfl
  rotate_left
  · simp only [Act.put, List.setIfInBounds_toArray, List.set_cons_zero, List.set_cons_succ, i64_w, i32_w]
    rfl
  refine take_ (i := 1) (N := some 83) (v := ?_) (a' := ?_) #[true, true, false, false, false, false, false, false, false, false, false, false, false] rfl rfl (by kernel_rfl) (fun c a w h => HP.out c a _ _ w h) (Or.inl ⟨by rfl, ?_⟩) hHeld ?_ ?_
  rotate_left
  · rintro w' ⟨s0, s1, s2, s3⟩
    go_simp
    with_reducible rfl
  rotate_left
  · simp only [Act.put, List.setIfInBounds_toArray, List.set_cons_zero, List.set_cons_succ, i64_w, i32_w]
    rfl
  refine pure_ (i := 2) (N := some 84) (v := ?_) (a' := ?_) #[true, true, true, false, false, false, false, false, false, false, false, false, false] rfl rfl (by kernel_rfl) (fun c a w h => HP.out c a _ _ w h) (Or.inl ⟨by rfl, ?_⟩) ?_ ?_
  rotate_left
  · intro w'
    go_simp
    with_reducible rfl
  rotate_left
  · simp only [Act.put, List.setIfInBounds_toArray, List.set_cons_zero, List.set_cons_succ, i64_w, i32_w]
    rfl
  refine pure_ (i := 3) (N := some 85) (v := ?_) (a' := ?_) #[true, true, true, true, false, false, false, false, false, false, false, false, false] rfl rfl (by kernel_rfl) (fun c a w h => HP.out c a _ _ w h) (Or.inl ⟨by rfl, ?_⟩) ?_ ?_
  rotate_left
  · intro w'
    go_simp
    with_reducible rfl
  rotate_left
  · simp only [Act.put, List.setIfInBounds_toArray, List.set_cons_zero, List.set_cons_succ, i64_w, i32_w]
    rfl
  refine pure_ (i := 4) (N := some 86) (v := ?_) (a' := ?_) #[true, true, true, true, true, false, false, false, false, false, false, false, false] rfl rfl (by kernel_rfl) (fun c a w h => HP.out c a _ _ w h) (Or.inl ⟨by rfl, ?_⟩) ?_ ?_
  rotate_left
  · intro w'
    go_simp
    with_reducible rfl
  rotate_left
  · simp only [Act.put, List.setIfInBounds_toArray, List.set_cons_zero, List.set_cons_succ, i64_w, i32_w]
    rfl
  refine pure_ (i := 7) (N := some 89) (v := ?_) (a' := ?_) #[true, true, true, true, true, false, false, true, false, false, false, false, false] rfl rfl (by kernel_rfl) (fun c a w h => HP.out c a _ _ w h) (Or.inl ⟨by rfl, ?_⟩) ?_ ?_
  rotate_left
  · intro w'
    go_simp
    with_reducible rfl
  rotate_left
  · simp only [Act.put, List.setIfInBounds_toArray, List.set_cons_zero, List.set_cons_succ, i64_w, i32_w]
    rfl
  refine take_ (i := 5) (N := some 87) (v := ?_) (a' := ?_) #[true, true, true, true, true, true, false, true, false, false, false, false, false] rfl rfl (by kernel_rfl) (fun c a w h => HP.out c a _ _ w h) (Or.inl ⟨by rfl, ?_⟩) hHeld ?_ ?_
  rotate_left
  · rintro w' ⟨s0, s1, s2, s3⟩
    go_simp
    with_reducible rfl
  rotate_left
  · simp only [Act.put, List.setIfInBounds_toArray, List.set_cons_zero, List.set_cons_succ, i64_w, i32_w]
    rfl
  refine take_ (i := 6) (N := some 88) (a' := ?_) #[true, true, true, true, true, true, true, true, false, false, false, false, false] rfl rfl (by kernel_rfl) (fun c a w h => HP.out c a _ _ w h) (yieldsIf_load_mid (by rfl) 60 _ rfl xb 0 (by rfl) [.int .i64 hn, .slice eA m ec, .int .i64 cost, .int .i64 l0, .int .i64 l1] _ (fun w' h => h.1) Try.underlying60 rfl (by kernel_rfl)) hHeld ?_ ?_
  rotate_left
  · simp only [Act.put, List.setIfInBounds_toArray, List.set_cons_zero, List.set_cons_succ, i64_w, i32_w]
    rfl
  refine take_ (i := 10) (N := some 92) (a' := ?_) #[true, true, true, true, true, true, true, true, false, false, true, false, false] rfl rfl (by kernel_rfl) (fun c a w h => HP.out c a _ _ w h) (yieldsIf_load_mid (by rfl) 54 _ rfl zb 0 (by rfl) [.int .i64 a1, .int .i64 a2] _ (fun w' h => h.2.2.1) Try.underlying54 rfl (by kernel_rfl)) hHeld ?_ ?_
  rotate_left
  · simp only [Act.put, List.setIfInBounds_toArray, List.set_cons_zero, List.set_cons_succ, i64_w, i32_w]
    rfl
  refine one_ (i := 8) (N := some 90) #[true, true, true, true, true, true, true, true, true, false, true, false, false] rfl rfl (by kernel_rfl) (by decide) (fun K hK => ?_)
  refine goesV_ Try.func54 (by kernel_rfl) rfl #[.agg #[.int .i64 hn, .slice eA m ec, .int .i64 cost, .int .i64 l0, .int .i64 l1], .slice (some ⟨bv, 0, none⟩) n n] (by rfl) rfl rfl (by rfl) (by simp only [List.map_toArray, List.map_cons, List.map_nil]; rfl) ?_
  with_reducible refine (CT.out).mono ?_
  rintro r w4 ⟨A', c', rfl, hv4, b4⟩
  have BB4 : Hid (Below wr.heap.size wr w4) := (Below.refl _ _).drew.trans b4
  have HV4 := Lib.hid hv4
  have e4 := Eff.of_below b4 (fun _ => False)
  clear hv4 b4
  refine ⟨_, rfl, ?_⟩
  refine hK.out _ _ ⟨(rangeAt_eff hHeld.1 e4 (fun h => h)), (Eff.cell e4 hHeld.2.1 (fun h => h)), (rangeAt_eff hHeld.2.2.1 e4 (fun h => h)), (Eff.cell e4 hHeld.2.2.2 (fun h => h))⟩ (fun hHeld => ?_)
  clear hK K
  refine norm_ (a' := ?_) ?_ ?_
  rotate_left
  · show Act.put _ (some 90) _ = _
    simp only [Act.put, List.setIfInBounds_toArray, List.set_cons_zero, List.set_cons_succ, i64_w, i32_w]
    rfl
  refine one_ (i := 9) (N := some 91) #[true, true, true, true, true, true, true, true, true, true, true, false, false] rfl rfl (by kernel_rfl) (by decide) (fun K hK => ?_)
  refine goesV_ Try.func48 (by kernel_rfl) rfl #[.int .i64 cost, .slice A' l.length c'] (by rfl) rfl rfl (by rfl) (by simp only [List.map_toArray, List.map_cons, List.map_nil]; rfl) ?_
  with_reducible refine (C48.out _ A' c' HV4.out).mono ?_
  rintro r w5 ⟨rfl, b5⟩
  have BB5 : Hid (Below wr.heap.size wr w5) := BB4.out.trans (b5.mono BB4.out.size)
  have e5 := Eff.of_below b5 (fun _ => False)
  clear b5
  refine ⟨_, rfl, ?_⟩
  refine hK.out _ _ ⟨(rangeAt_eff hHeld.1 e5 (fun h => h)), (Eff.cell e5 hHeld.2.1 (fun h => h)), (rangeAt_eff hHeld.2.2.1 e5 (fun h => h)), (Eff.cell e5 hHeld.2.2.2 (fun h => h))⟩ (fun hHeld => ?_)
  clear hK K
  refine norm_ (a' := ?_) ?_ ?_
  rotate_left
  · show Act.put _ (some 91) _ = _
    simp only [Act.put, List.setIfInBounds_toArray, List.set_cons_zero, List.set_cons_succ, i64_w, i32_w]
    rfl
  refine pure_ (i := 11) (N := some 93) (v := ?_) (a' := ?_) #[true, true, true, true, true, true, true, true, true, true, true, true, false] rfl rfl (by kernel_rfl) (fun c a w h => HP.out c a _ _ w h) (Or.inl ⟨by rfl, ?_⟩) ?_ ?_
  rotate_left
  · intro w'
    go_simp
    with_reducible rfl
  rotate_left
  · simp only [Act.put, List.setIfInBounds_toArray, List.set_cons_zero, List.set_cons_succ, i64_w, i32_w]
    rfl
  refine pure_ (i := 12) (N := some 94) (v := ?_) (a' := ?_) #[true, true, true, true, true, true, true, true, true, true, true, true, true] rfl rfl (by kernel_rfl) (fun c a w h => HP.out c a _ _ w h) (Or.inl ⟨by rfl, ?_⟩) ?_ ?_
  rotate_left
  · intro w'
    go_simp
    with_reducible rfl
  rotate_left
  · simp only [Act.put, List.setIfInBounds_toArray, List.set_cons_zero, List.set_cons_succ, i64_w, i32_w]
    rfl
  refine done_ (by kernel_rfl) ?_
  exact HQ.out _ BB5.out _ _ _ _ _ _ _ _ _ _ _ _
end Go.Proofs.Ytepfbhigeghjjaa.Q
namespace Go.Proofs.Ytepfbhigeghjjaa.Q
open Go.RowKit Go.Proofs.YtepfbhigeghjjaaW.PrintLast
set_option linter.unusedVariables false
set_option linter.unusedSimpArgs false
/-- The reference's Solve in memory. -/
structure RSt (w wr : World) (hb bv be n ecap : Nat) (A : Option Addr) (es : List REd) (v : Nat → K.V) (ef : Nat → Int) : Prop where
  hdr : HB wr hb n es.length ecap A
  vals : ValsAt wr bv n v
  edg : wr.rowIs be 3 n (fun i => .int .i64 (ef i))
  below : Below w.heap.size w wr
  ge : w.heap.size ≤ bv ∧ w.heap.size ≤ be
section
variable {w wr W : World} {hb bv be n ecap : Nat} {A : Option Addr} {es : List REd} {v : Nat → K.V} {ef : Nat → Int}
theorem RSt.bel (h : RSt w wr hb bv be n ecap A es v ef) (hbl : Below wr.heap.size wr W) : RSt w W hb bv be n ecap A es v ef :=
  ⟨below_heap hbl h.hdr, h.vals.eff (Eff.of_below hbl (fun _ => False)) (fun h => h), rowIs_eff h.edg (Eff.of_below hbl (fun _ => False)) (fun h => h), h.below.trans (hbl.mono h.below.size), h.ge⟩
theorem RSt.setV (h : RSt w wr hb bv be n ecap A es v ef) (i : Nat) (hi : i < n) (y : K.V) : RSt w (wr.setCells bv (i * 2) (encV y)) hb bv be n ecap A es (K.upd v i y) ef := by
  have he : Eff (fun k => k = bv) wr (wr.setCells bv (i * 2) (encV y)) := (eff_setCells bv _ (i * 2) wr).1
  obtain ⟨c1, k1, _⟩ := h.edg
  obtain ⟨c5, k5, _⟩ := h.vals.blk
  exact ⟨he.heap h.hdr (ne_of_type h.hdr k5 (by decide)), h.vals.set i hi y, rowIs_eff h.edg he (ne_of_type k1 k5 (by decide)), h.below.trans (he.belowB h.below.size (fun k hk => by rw [hk]; exact h.ge.1)), h.ge⟩
theorem RSt.setEf (h : RSt w wr hb bv be n ecap A es v ef) (i : Nat) (x : Int) : RSt w (wr.setCell ⟨be, i, none⟩ (.int .i64 x)) hb bv be n ecap A es v (K.upd ef i x) := by
  have he : Eff (fun k => k = be) wr (wr.setCell ⟨be, i, none⟩ (.int .i64 x)) := eff_setCell wr be i _
  obtain ⟨c1, k1, _⟩ := h.edg
  obtain ⟨c5, k5, _⟩ := h.vals.blk
  exact ⟨he.heap h.hdr (ne_of_type h.hdr k1 (by decide)), h.vals.eff he (ne_of_type k5 k1 (by decide)), (h.edg.set i (.int .i64 x)).congr (fun j _ => by unfold K.upd; split <;> rfl), h.below.trans (he.belowB h.below.size (fun k hk => by rw [hk]; exact h.ge.2)), h.ge⟩
theorem RSt.congr (h : RSt w wr hb bv be n ecap A es v ef) {v' : Nat → K.V} {ef' : Nat → Int} (h2 : ∀ i, i < n → v i = v' i) (h4 : ∀ i, i < n → ef i = ef' i) : RSt w wr hb bv be n ecap A es v' ef' :=
  ⟨h.hdr, h.vals.congr h2, h.edg.congr (fun i hi => by rw [h4 i hi]), h.below, h.ge⟩
theorem RSt.c (h : RSt w wr hb bv be n ecap A es v ef) : wr.cell? ⟨hb, 0, none⟩ = some (.int .i64 n) ∧ wr.cell? ⟨hb, 1, none⟩ = some (.slice A es.length ecap) := by
  have h1 := h.hdr
  unfold HB at h1
  simp [World.cell?, h1]
end
/-- What a hyperedge's tails give, as the reference's calls compute it. -/
theorem tailsV {v : Nat → K.V} (e : REd) : K.combV e.cost (e.tails.map (fun t => v t.toNat)) = K.comb e.plain v := by
  show _ = K.combV e.cost ((e.tails.map Int.toNat).map v)
  rw [List.map_map]
  rfl
/-- The two calls: Tails and Combine. -/
theorem calls_tc {wr : World} {bv n : Nat} {v : Nat → K.V} (hv : ValsAt wr bv n v) (e : REd) (he : IntsIn wr e.A e.tails) (hok : e.ok n) (hvo : ∀ i, i < n → K.OkV (v i)) {y1 y2 : Int} (hy : K.comb e.plain v = (y1, y2)) :
    ∃ l : List K.V, (∀ W : World, Below wr.heap.size wr W → Calls Try.prog 54 #[.agg #[.int .i64 e.head, .slice e.A e.tails.length e.cap, .int .i64 e.cost, .int .i64 e.l0, .int .i64 e.l1], .slice (some ⟨bv, 0, none⟩) n n] W (TailsPost W l)) ∧
      (∀ (W : World) (A : Option Addr) (c : Nat), ValsIn W A l → Calls Try.prog 48 #[.int .i64 e.cost, .slice A l.length c] W fun r w' => r = .returned (.agg #[.int .i64 y1, .int .i64 y2]) ∧ Below W.heap.size W w') := by
  refine ⟨e.tails.map (fun t => v t.toNat), fun W hW => tails54 (hv.eff (Eff.of_below hW (fun _ => False)) (fun h => h)) e (he.below hW) hok.2.2.1 hok.2.2.2.2.2, fun W A c hA => ?_⟩
  have h := combine48 (cap := c) e.cost _ hA hok.2.2.2.1 hok.2.2.2.2.1 (fun x hx => by
    obtain ⟨t, ht, rfl⟩ := List.mem_map.1 hx
    have := hok.2.2.1 t ht
    exact hvo t.toNat (by omega)) (by rw [List.length_map]; have := hok.2.2.2.2.2; omega)
  rw [tailsV, hy] at h
  exact h
/-- No hyperedge before the k-th lowers its head's value. -/
def NoLess (E : List K.Ed) (v : Nat → K.V) (k : Nat) : Prop := ∀ (j : Nat) e, j < k → E[j]? = some e → ¬ K.ltV (K.comb e v) (v e.head)
theorem NoLess.next {E : List K.Ed} {v : Nat → K.V} {k : Nat} {e : K.Ed} (h : NoLess E v k) (he : E[k]? = some e) (hn : ¬ K.ltV (K.comb e v) (v e.head)) : NoLess E v (k + 1) := fun j e' hj he' => by
  by_cases hjk : j = k
  · subst hjk
    rw [he] at he'
    cases he'
    exact hn
  · exact h j e' (by omega) he'
def SweepI (E : List K.Ed) (n s0 k : Nat) (v : Nat → K.V) (more : Bool) : Prop := K.RInv E n v ∧ ((more = false ∧ K.sumV v n = s0 ∧ NoLess E v k) ∨ (more = true ∧ K.sumV v n < s0))
set_option maxHeartbeats 8000000 in
set_option maxRecDepth 100000 in
theorem solve51 {w : World} {n ecap : Nat} {A : Option Addr} {es : List REd} (hA : EdsIn w A es) (hok : ∀ e ∈ es, e.ok n) (hn : n ≤ 1000) (hm : es.length ≤ 1000) :
    Calls Try.prog 51 #[.agg #[.int .i64 n, .slice A es.length ecap]] w (SolvePost w n (es.map REd.plain)) := by
  have HA := Lib.hid hA
  have HOK := Lib.hid hok
  have HEE : Hid (∀ e ∈ es.map REd.plain, K.OkE n e) := edges_ok hok
  clear hA hok
  have a1 : ((w.alloc (.cells #[.int .i64 n, .slice A es.length ecap] 48)).alloc (oV n)).cell? ⟨w.heap.size, 0, none⟩ = some (.int .i64 n) := by
    have := (eff_alloc (w.alloc (.cells #[.int .i64 n, .slice A es.length ecap] 48)) (oV n)).heap (heap_alloc_new w (.cells #[.int .i64 n, .slice A es.length ecap] 48)) (fun h => h)
    simp only [World.cell?, this]
    rfl
  have hmk := makeI n (by omega)
  have hmv := makeV n (by omega)
  obtain ⟨W3, hW3⟩ : ∃ W, W = ((w.alloc (.cells #[.int .i64 n, .slice A es.length ecap] 48)).alloc (oV n)).alloc (oI n) := ⟨_, rfl⟩
  obtain ⟨hb, hhb⟩ : ∃ b, b = w.heap.size := ⟨_, rfl⟩
  obtain ⟨bv, hbv⟩ : ∃ b, b = w.heap.size + 1 := ⟨_, rfl⟩
  obtain ⟨be, hbe⟩ : ∃ b, b = w.heap.size + 1 + 1 := ⟨_, rfl⟩
  have R3 : Hid (RSt w W3 hb bv be n ecap A es (v1 0) (e1 0)) := by
    have B := ((((Below.refl w.heap.size w).alloc (Nat.le_refl _) (.cells #[.int .i64 n, .slice A es.length ecap] 48)).alloc (by simp) (oV n)).alloc (by simp; omega) (oI n))
    have s1 : (w.alloc (.cells #[.int .i64 n, .slice A es.length ecap] 48)).heap.size = w.heap.size + 1 := by simp
    have s2 : ((w.alloc (.cells #[.int .i64 n, .slice A es.length ecap] 48)).alloc (oV n)).heap.size = w.heap.size + 1 + 1 := by simp
    have h1 := (eff_alloc _ (oI n)).heap ((eff_alloc _ (oV n)).heap (heap_alloc_new w (.cells #[.int .i64 n, .slice A es.length ecap] 48)) (fun h => h)) (fun h => h)
    have h2 := (eff_alloc _ (oI n)).heap (heap_alloc_new (w.alloc (.cells #[.int .i64 n, .slice A es.length ecap] 48)) (oV n)) (fun h => h)
    have h3 := heap_alloc_new ((w.alloc (.cells #[.int .i64 n, .slice A es.length ecap] 48)).alloc (oV n)) (oI n)
    rw [s1] at h2
    rw [s2] at h3
    rw [hW3, hhb, hbv, hbe]
    exact ⟨h1, (vals_of h2).congr (fun i _ => by unfold v1; rw [if_neg (Nat.not_lt_zero _)]), (row_of h3).congr (fun i _ => by unfold e1; rw [if_neg (Nat.not_lt_zero _)]), B, by omega, by omega⟩
  have HW := Lib.hid (And.intro hW3 (And.intro hhb (And.intro hbv hbe)))
  clear hW3 hhb hbv hbe
  go_enter Try.func51, Try.ntmps51
  go_wp2_with fail
  rw [← HW.out.1, ← HW.out.2.2.2, ← HW.out.2.2.1, ← HW.out.2.1]
  clear a1 hmk hmv
  go_loopg [6] n (fun k si wr => ∃ i : Nat, si = .int .i64 i ∧ i ≤ n ∧ n - i ≤ k ∧ Hid (RSt w wr hb bv be n ecap A es (v1 i) (e1 i)))
  case atStart => exact ⟨0, rfl, by omega, by omega, R3.out⟩
  case round =>
    clear R3 HW
    obtain ⟨i, rfl, hi, hk, HR⟩ := hrel
    obtain ⟨y0, y1⟩ := HR.out.c
    by_cases hlt : i < n
    · have hlz : (i : Int) < (n : Int) := by omega
      obtain ⟨o1, ho1⟩ : ∃ x, (v1 i i).1 = x := ⟨_, rfl⟩
      obtain ⟨o2, ho2⟩ : ∃ x, (v1 i i).2 = x := ⟨_, rfl⟩
      obtain ⟨o3, ho3⟩ : ∃ x, e1 i i = x := ⟨_, rfl⟩
      have x1 : wr.cell? ⟨bv, i * 2, none⟩ = some (.int .i64 o1) := by rw [← ho1]; exact HR.out.vals.at_ i hlt 0 _ rfl
      have x2 : wr.cell? ⟨bv, i * 2 + 1, none⟩ = some (.int .i64 o2) := by rw [← ho2]; exact HR.out.vals.at_ i hlt 1 _ rfl
      have f1 : wr.frozen? ⟨bv, i * 2, none⟩ = false := HR.out.vals.frozen _
      have f2 : wr.frozen? ⟨bv, i * 2 + 1, none⟩ = false := HR.out.vals.frozen _
      have k1 := HR.out.setV i hlt (1099511627776, 0)
      have hk1 : wr.setCells bv (i * 2) (encV (1099511627776, 0)) = (wr.setCell ⟨bv, i * 2, none⟩ (.int .i64 1099511627776)).setCell ⟨bv, i * 2 + 1, none⟩ (.int .i64 0) := rfl
      rw [hk1] at k1
      have x3 : ((wr.setCell ⟨bv, i * 2, none⟩ (.int .i64 1099511627776)).setCell ⟨bv, i * 2 + 1, none⟩ (.int .i64 0)).cell? ⟨be, i, none⟩ = some (.int .i64 o3) := by rw [← ho3]; exact k1.edg.cell hlt
      have f3 : ((wr.setCell ⟨bv, i * 2, none⟩ (.int .i64 1099511627776)).setCell ⟨bv, i * 2 + 1, none⟩ (.int .i64 0)).frozen? ⟨be, i, none⟩ = false := k1.edg.frozen i
      have KK := Lib.hid (k1.setEf i (-1))
      clear hk1 k1 ho1 ho2 ho3
      go_wp2_with fail
      go_roundg (n - (i + 1))
      case measure => omega
      case rel =>
        refine ⟨i + 1, by go_num, by omega, by omega, KK.out.congr (fun j hj => ?_) (fun j hj => ?_)⟩
        · unfold K.upd v1
          by_cases h1 : j = i
          · rw [if_pos h1, if_pos (by omega)]
          · rw [if_neg h1]
            by_cases h2 : j < i
            · rw [if_pos h2, if_pos (by omega)]
            · rw [if_neg h2, if_neg (by omega)]
        · unfold K.upd e1
          by_cases h1 : j = i
          · rw [if_pos h1, if_pos (by omega)]
          · rw [if_neg h1]
            by_cases h2 : j < i
            · rw [if_pos h2, if_pos (by omega)]
            · rw [if_neg h2, if_neg (by omega)]
    · have hlz : ¬ (i : Int) < (n : Int) := by omega
      obtain rfl : n = i := by omega
      go_wp2_with fail
      have R4 : Hid (RSt w wr hb bv be n ecap A es (fun _ => (1099511627776, 0)) (fun _ => -1)) := HR.out.congr (fun j hj => by unfold v1; rw [if_pos hj]) (fun j hj => by unfold e1; rw [if_pos hj])
      clear HR hi hk hlt hlz y0 y1
      obtain ⟨M, hM⟩ : ∃ M, M = 2 * K.sumV (fun _ => (1099511627776, 0)) n + 1 := ⟨_, rfl⟩
      have HM := Lib.hid hM
      clear hM
      go_loopg [7] M (fun gk s7 wr => ∃ (more : Bool) (v : Nat → K.V), s7 = .bool more ∧ Hid (2 * K.sumV v n + (if more then 1 else 0) ≤ gk ∧ RSt w wr hb bv be n ecap A es v (fun _ => -1) ∧ K.RInv (es.map REd.plain) n v ∧ (more = false → NoLess (es.map REd.plain) v es.length)))
      case atStart => exact ⟨true, fun _ => (1099511627776, 0), rfl, by rw [HM.out]; exact Nat.le_refl _, R4.out, K.RInv.start _ _, fun h => by cases h⟩
      case round =>
        clear R4 HM
        obtain ⟨more, v, rfl, HR⟩ := hrel
        cases more with
        | false =>
          have R5 : Hid (RSt w wr hb bv be n ecap A es v (fun _ => -1)) := HR.out.2.1
          have FX : Hid (K.Fix (es.map REd.plain) n v) := HR.out.2.2.1.fix (fun j e he => HR.out.2.2.2 rfl j e (by have := (List.getElem?_eq_some_iff.1 he).1; rwa [List.length_map] at this) he)
          clear HR
          obtain ⟨y0, y1⟩ := R5.out.c
          go_wp2_with fail
          clear y0 y1
          go_loopg [11] es.length (fun gj s11 wr => ∃ (z : Int) (j : Nat), s11 = .int .i64 z ∧ z = (j : Int) - 1 ∧ j ≤ es.length ∧ j ≤ gj ∧ Hid (∃ f, RSt w wr hb bv be n ecap A es v f ∧ K.ChosenFrom (es.map REd.plain) n v f j))
          case atStart => exact ⟨_, es.length, rfl, by go_num, by omega, by omega, _, R5.out, by have := K.ChosenFrom.start (es.map REd.plain) n v; rwa [List.length_map] at this⟩
          case round =>
            clear R5
            obtain ⟨z, j, rfl, hz, hi, hk, HR⟩ := hrel
            cases j with
            | zero =>
              obtain rfl : z = -1 := by omega
              obtain ⟨f, R6, ch⟩ := HR.out
              have KK := Lib.hid (And.intro R6 ch)
              clear HR R6 ch hz
              go_wp2_with fail
              refine bodyPost_ret (res_tt (p := 2) (u := 3) rfl _ _) rfl ?_
              exact ⟨bv, be, v, f, rfl, ⟨FX.out, KK.out.2.done⟩, KK.out.1.vals, KK.out.1.edg, KK.out.1.below, KK.out.1.ge.1, KK.out.1.ge.2⟩
            | succ k =>
              obtain rfl : z = (k : Int) := by omega
              obtain ⟨f, R6, ch⟩ := HR.out
              have RR := Lib.hid R6
              have CH := Lib.hid ch
              clear HR R6 ch hz
              have hlt : k < es.length := by omega
              have hkz : (0 : Int) ≤ (k : Int) := by omega
              have hlz : (k : Int) < (es.length : Int) := by omega
              obtain ⟨y0, y1⟩ := RR.out.c
              obtain ⟨e, he⟩ : ∃ e, es[k]? = some e := ⟨_, List.getElem?_eq_getElem hlt⟩
              have hok := HOK.out e (List.mem_of_getElem? he)
              have hti := HA.out.tails e (List.mem_of_getElem? he)
              obtain ⟨b, o, rfl, z0, z1, z2, z3, z4⟩ := HA.out.c RR.out.below he
              have HEK : Hid ((es.map REd.plain)[k]? = some e.plain) := by show _ = _; rw [List.getElem?_map, he]; rfl
              obtain ⟨hn', hhn⟩ : ∃ x, e.head.toNat = x := ⟨_, rfl⟩
              have hhe : e.head = (hn' : Int) := by rw [← hhn, Int.toNat_of_nonneg hok.1]
              have hhl : hn' < n := by have := hok.2.1; omega
              have hph : e.plain.head = hn' := hhn
              obtain ⟨c1, hc1⟩ : ∃ x, (K.comb e.plain v).1 = x := ⟨_, rfl⟩
              obtain ⟨c2, hc2⟩ : ∃ x, (K.comb e.plain v).2 = x := ⟨_, rfl⟩
              have hcomb : K.comb e.plain v = (c1, c2) := Prod.ext hc1 hc2
              obtain ⟨q1, hq1⟩ : ∃ x, (v hn').1 = x := ⟨_, rfl⟩
              obtain ⟨q2, hq2⟩ : ∃ x, (v hn').2 = x := ⟨_, rfl⟩
              have hvv : v hn' = (q1, q2) := Prod.ext hq1 hq2
              rw [hhe] at z0
              obtain ⟨W2, hW2⟩ : ∃ W, W = wr.alloc (.cells #[.int .i64 hn', .slice e.A e.tails.length e.cap, .int .i64 e.cost, .int .i64 e.l0, .int .i64 e.l1] 60) := ⟨_, rfl⟩
              obtain ⟨xb, hxb⟩ : ∃ b, b = wr.heap.size := ⟨_, rfl⟩
              have B2 : Below wr.heap.size wr W2 := by rw [hW2]; exact (Below.refl _ _).alloc (Nat.le_refl _) _
              have X2 : Hid (W2.heap[xb]? = some (.cells #[.int .i64 hn', .slice e.A e.tails.length e.cap, .int .i64 e.cost, .int .i64 e.l0, .int .i64 e.l1] 60 (0, 0))) := by show _ = _; rw [hW2, hxb]; exact heap_alloc_new wr _
              have R2 := RR.out.bel B2
              obtain ⟨W3, hW3⟩ : ∃ W, W = W2.alloc (.cells #[.int .i64 q1, .int .i64 q2] 54) := ⟨_, rfl⟩
              obtain ⟨zb, hzb⟩ : ∃ b, b = wr.heap.size + 1 := ⟨_, rfl⟩
              have B3 : Below W2.heap.size W2 W3 := by rw [hW3]; exact (Below.refl _ _).alloc (Nat.le_refl _) _
              have R3 := R2.bel B3
              have Z3 : Hid (W3.heap[zb]? = some (.cells #[.int .i64 q1, .int .i64 q2] 54 (0, 0))) := by
                show _ = _
                have := heap_alloc_new W2 (.cells #[.int .i64 q1, .int .i64 q2] 54)
                rw [← hW3, show W2.heap.size = zb by rw [hW2, hzb]; simp] at this
                exact this
              have X3 := Lib.hid (below_heap B3 X2.out)
              obtain ⟨l, hct, hc48⟩ := calls_tc R3.vals e (((hti.below RR.out.below).below B2).below B3) hok FX.out.ok hcomb
              rw [hhe] at hct
              have CT : Hid (Calls Try.prog 54 #[.agg #[.int .i64 hn', .slice e.A e.tails.length e.cap, .int .i64 e.cost, .int .i64 e.l0, .int .i64 e.l1], .slice (some ⟨bv, 0, none⟩) n n] W3.drew (TailsPost W3.drew l)) := hct W3.drew (Below.refl _ _).drew
              have C48 := Lib.hid hc48
              have a1 : (wr.alloc (.cells #[.int .i64 hn', .slice e.A e.tails.length e.cap, .int .i64 e.cost, .int .i64 e.l0, .int .i64 e.l1] 60)).cell? ⟨bv, hn' * 2, none⟩ = some (.int .i64 q1) := by rw [← hW2]; have := R2.vals.at_ hn' hhl 0 (.int .i64 q1) (by rw [hvv]; rfl); exact this
              have a2 : (wr.alloc (.cells #[.int .i64 hn', .slice e.A e.tails.length e.cap, .int .i64 e.cost, .int .i64 e.l0, .int .i64 e.l1] 60)).cell? ⟨bv, hn' * 2 + 1, none⟩ = some (.int .i64 q2) := by rw [← hW2]; have := R2.vals.at_ hn' hhl 1 (.int .i64 q2) (by rw [hvv]; rfl); exact this
              have hhz : (hn' : Int) < (n : Int) := by omega
              have RR3 := Lib.hid R3
              have HC := Lib.hid (And.intro hcomb (And.intro hvv hph))
              have HW2 := Lib.hid (And.intro hW2 hxb)
              have HW3 := Lib.hid (And.intro hW3 hzb)
              clear RR he hok hti hhn hhe hph hc1 hc2 hcomb hq1 hq2 hvv hW2 hxb B2 R2 hct hc48 hW3 hzb B3 R3 X2
              go_wp2_with fail
              rw [← HW2.out.1, ← HW3.out.1, ← HW3.out.2, ← HW2.out.2]
              clear z0 z1 z2 z3 z4 y0 y1 a1 a2
              have ZR : W3.rangeAt zb 0 [.int .i64 q1, .int .i64 q2] := box_range (L := [.int .i64 q1, .int .i64 q2]) Z3.out 0 _ (fun j v h => by rw [Nat.zero_add]; exact h)
              have Z0 : W3.cell? ⟨zb, 0, none⟩ = some (.int .i64 q1) := ZR 0 _ rfl
              by_cases hq : q1 < 1099511627776
              · have XR : W3.rangeAt xb 0 [.int .i64 hn', .slice e.A e.tails.length e.cap, .int .i64 e.cost, .int .i64 e.l0, .int .i64 e.l1] := box_range (L := [.int .i64 hn', .slice e.A e.tails.length e.cap, .int .i64 e.cost, .int .i64 e.l0, .int .i64 e.l1]) X3.out 0 _ (fun j v h => by rw [Nat.zero_add]; exact h)
                by_cases g1 : c1 = q1
                · by_cases g2 : c2 = q2
                  · have NX : Hid (K.ChosenFrom (es.map REd.plain) n v (K.upd f hn' k) k) := by
                      have := CH.out.yes HEK.out (by rw [HC.out.1, HC.out.2.2, HC.out.2.1, g1, g2]; exact ⟨hq, rfl⟩)
                      rwa [HC.out.2.2] at this
                    subst g1
                    subst g2
                    refine ref_r23e (fun _ _ _ _ _ h => h) hq XR (XR 2 _ rfl) ZR Z0 CT C48 ?_
                    rintro w8 b8
                    intro t82 t83 t84 t85 t86 t87 t88 t89 t90 t91 t92 t93
                    have R8 := Lib.hid (RR3.out.bel b8)
                    have e0 : w8.cell? ⟨xb, 0, none⟩ = some (.int .i64 hn') := by have := below_heap b8 X3.out; simp only [World.cell?, this]; rfl
                    obtain ⟨fh, hfh⟩ : ∃ x, f hn' = x := ⟨_, rfl⟩
                    have e1 : w8.cell? ⟨be, hn', none⟩ = some (.int .i64 fh) := by rw [← hfh]; exact R8.out.edg.cell hhl
                    have e2 : w8.frozen? ⟨be, hn', none⟩ = false := R8.out.edg.frozen hn'
                    clear hfh b8 XR ZR Z0 hq CT C48
                    go_wp2_with fail
                    go_roundg k
                    case measure => omega
                    case rel => exact ⟨_, k, by go_num, rfl, by omega, by omega, _, R8.out.setEf hn' k, NX.out⟩
                  · have NX : Hid (K.ChosenFrom (es.map REd.plain) n v f k) := CH.out.no HEK.out (fun h => g2 (by
                      have h3 := h.2
                      rw [HC.out.1, HC.out.2.2, HC.out.2.1] at h3
                      exact congrArg Prod.snd h3))
                    refine ref_r23m (fun _ _ _ _ _ h => h) hq (beq_iff_eq.2 g1) (beq_eq_false_iff_ne.2 g2) XR (XR 2 _ rfl) ZR Z0 CT C48 ?_
                    rintro w8 b8
                    intro t82 t83 t84 t85 t86 t87 t88 t89 t90 t91 t92 t93
                    have R8 := Lib.hid (RR3.out.bel b8)
                    clear b8 XR ZR Z0 hq CT C48 g1 g2
                    go_wp2_with fail
                    go_roundg k
                    case measure => omega
                    case rel => exact ⟨_, k, by go_num, rfl, by omega, by omega, _, R8.out, NX.out⟩
                · have NX : Hid (K.ChosenFrom (es.map REd.plain) n v f k) := CH.out.no HEK.out (fun h => g1 (by
                    have h3 := h.2
                    rw [HC.out.1, HC.out.2.2, HC.out.2.1] at h3
                    exact congrArg Prod.fst h3))
                  refine ref_r23n (fun _ _ _ _ _ h => h) hq (beq_eq_false_iff_ne.2 g1) XR (XR 2 _ rfl) ZR Z0 CT C48 ?_
                  rintro w8 b8
                  intro t82 t83 t84 t85 t86 t87 t88 t89 t90 t91 t92 t93
                  have R8 := Lib.hid (RR3.out.bel b8)
                  clear b8 XR ZR Z0 hq CT C48 g1
                  go_wp2_with fail
                  go_roundg k
                  case measure => omega
                  case rel => exact ⟨_, k, by go_num, rfl, by omega, by omega, _, R8.out, NX.out⟩
              · have g1 : decide (q1 < 1099511627776) = false := decide_eq_false hq
                have NX : Hid (K.ChosenFrom (es.map REd.plain) n v f k) := CH.out.no HEK.out (fun h => hq (by
                  have h3 := h.1
                  rw [HC.out.2.2, HC.out.2.1] at h3
                  exact h3))
                clear hq ZR CT C48
                go_quiet (fail)
                go_wp2_with fail
                go_roundg k
                case measure => omega
                case rel => exact ⟨_, k, by go_num, rfl, by omega, by omega, _, RR3.out.bel (below_drewN (Below.refl _ _) nq), NX.out⟩
        | true =>
          have R5 : Hid (RSt w wr hb bv be n ecap A es v (fun _ => -1)) := HR.out.2.1
          obtain ⟨s0, hs0⟩ : ∃ s0, K.sumV v n = s0 := ⟨_, rfl⟩
          have I5 : Hid (SweepI (es.map REd.plain) n s0 0 v false) := ⟨HR.out.2.2.1, .inl ⟨rfl, hs0, fun j e hj => absurd hj (Nat.not_lt_zero _)⟩⟩
          have HG : Hid (2 * s0 + 1 ≤ gk) := by rw [← hs0]; exact HR.out.1
          obtain ⟨v0, hv0⟩ : ∃ v0, v0 = v := ⟨_, rfl⟩
          rw [← hv0] at R5 I5
          clear HR hs0 hv0
          clear v
          go_wp2_with fail
          go_loopg [7, 8] es.length (fun gj s7 s8 wr => ∃ (k : Nat) (more : Bool) (v' : Nat → K.V), s7 = .bool more ∧ s8 = .int .i64 k ∧ k ≤ es.length ∧ es.length - k ≤ gj ∧ Hid (RSt w wr hb bv be n ecap A es v' (fun _ => -1) ∧ SweepI (es.map REd.plain) n s0 k v' more))
          case atStart => exact ⟨0, false, v0, rfl, rfl, by omega, by omega, R5.out, I5.out⟩
          case round =>
            clear R5 I5
            obtain ⟨k, more, v, rfl, rfl, hi, hk, HR⟩ := hrel
            have RR : Hid (RSt w wr hb bv be n ecap A es v (fun _ => -1)) := HR.out.1
            obtain ⟨y0, y1⟩ := RR.out.c
            by_cases hlt : k < es.length
            · have hlz : (k : Int) < (es.length : Int) := by omega
              obtain ⟨e, he⟩ : ∃ e, es[k]? = some e := ⟨_, List.getElem?_eq_getElem hlt⟩
              have hok := HOK.out e (List.mem_of_getElem? he)
              have hti := HA.out.tails e (List.mem_of_getElem? he)
              obtain ⟨b, o, rfl, z0, z1, z2, z3, z4⟩ := HA.out.c RR.out.below he
              have HEK : Hid ((es.map REd.plain)[k]? = some e.plain) := by show _ = _; rw [List.getElem?_map, he]; rfl
              obtain ⟨hn', hhn⟩ : ∃ x, e.head.toNat = x := ⟨_, rfl⟩
              have hhe : e.head = (hn' : Int) := by rw [← hhn, Int.toNat_of_nonneg hok.1]
              have hhl : hn' < n := by have := hok.2.1; omega
              have hph : e.plain.head = hn' := hhn
              obtain ⟨c1, hc1⟩ : ∃ x, (K.comb e.plain v).1 = x := ⟨_, rfl⟩
              obtain ⟨c2, hc2⟩ : ∃ x, (K.comb e.plain v).2 = x := ⟨_, rfl⟩
              have hcomb : K.comb e.plain v = (c1, c2) := Prod.ext hc1 hc2
              obtain ⟨q1, hq1⟩ : ∃ x, (v hn').1 = x := ⟨_, rfl⟩
              obtain ⟨q2, hq2⟩ : ∃ x, (v hn').2 = x := ⟨_, rfl⟩
              have hvv : v hn' = (q1, q2) := Prod.ext hq1 hq2
              rw [hhe] at z0
              obtain ⟨W2, hW2⟩ : ∃ W, W = wr.alloc (.cells #[.int .i64 hn', .slice e.A e.tails.length e.cap, .int .i64 e.cost, .int .i64 e.l0, .int .i64 e.l1] 60) := ⟨_, rfl⟩
              obtain ⟨xb, hxb⟩ : ∃ b, b = wr.heap.size := ⟨_, rfl⟩
              have B2 : Below wr.heap.size wr W2 := by rw [hW2]; exact (Below.refl _ _).alloc (Nat.le_refl _) _
              have X2 : Hid (W2.heap[xb]? = some (.cells #[.int .i64 hn', .slice e.A e.tails.length e.cap, .int .i64 e.cost, .int .i64 e.l0, .int .i64 e.l1] 60 (0, 0))) := by show _ = _; rw [hW2, hxb]; exact heap_alloc_new wr _
              have R2 := RR.out.bel B2
              obtain ⟨l, hct, hc48⟩ := calls_tc R2.vals e ((hti.below RR.out.below).below B2) hok HR.out.2.1.ok hcomb
              rw [hhe] at hct
              have CT := Lib.hid hct
              have C48 := Lib.hid hc48
              have SW := Lib.hid HR.out.2
              have RR2 := Lib.hid R2
              have HC := Lib.hid (And.intro hcomb (And.intro hvv hph))
              have HW2 := Lib.hid (And.intro hW2 hxb)
              clear HR RR he hok hti hhn hhe hph hc1 hc2 hcomb hq1 hq2 hvv hW2 hxb B2 R2 hct hc48
              go_wp2_with fail
              rw [← HW2.out.1, ← HW2.out.2]
              clear z0 z1 z2 z3 z4 y0 y1
              have XR : W2.rangeAt xb 0 [.int .i64 hn', .slice e.A e.tails.length e.cap, .int .i64 e.cost, .int .i64 e.l0, .int .i64 e.l1] := box_range (L := [.int .i64 hn', .slice e.A e.tails.length e.cap, .int .i64 e.cost, .int .i64 e.l0, .int .i64 e.l1]) X2.out 0 _ (fun j v h => by rw [Nat.zero_add]; exact h)
              refine ref_r14 (fun _ _ _ _ _ h => h) XR (XR 2 _ rfl) CT C48 ?_
              rintro yb w8 b8 y8 g8
              intro t46 t47 t48 t49 t50 t51
              clear XR CT C48
              have R8 := Lib.hid (RR2.out.bel b8)
              have X8 := Lib.hid (below_heap b8 X2.out)
              have Y8 := Lib.hid y8
              obtain ⟨L, hL⟩ : ∃ x, decide (c1 < q1 ∨ c1 = q1 ∧ c2 < q2) = x := ⟨_, rfl⟩
              have HL := Lib.hid hL
              clear b8 y8 g8 hL X2 RR2 HW2
              go_wp2_with fail
              refine ref_r15 (hn := hn') (fun _ _ _ _ _ h => h) HL.out (by omega) (box_range (L := [.int .i64 c1, .int .i64 c2]) Y8.out 0 _ (fun j v h => by rw [Nat.zero_add]; exact h)) (by simp only [World.cell?, X8.out]; rfl) (by have := R8.out.vals.at_ hn' hhl; rw [HC.out.2.1] at this; exact this) ?_
              rintro w9 b9
              intro t52 t53 t54 t55 t56 t57
              have R9 := Lib.hid (R8.out.bel b9)
              have X9 := Lib.hid (below_heap b9 X8.out)
              have Y9 := Lib.hid (below_heap b9 Y8.out)
              clear b9 X8 Y8 R8
              cases L with
              | false =>
                have SN : Hid (SweepI (es.map REd.plain) n s0 (k + 1) v more) := ⟨SW.out.1, SW.out.2.imp (fun ⟨h1, h2, h3⟩ => ⟨h1, h2, h3.next HEK.out (by rw [HC.out.1, HC.out.2.2, HC.out.2.1]; exact of_decide_eq_false HL.out)⟩) id⟩
                go_wp2_with fail
                go_roundg (es.length - (k + 1))
                case measure => omega
                case rel => exact ⟨k + 1, more, v, rfl, by go_num, by omega, by omega, R9.out, SN.out⟩
              | true =>
                have hlt2 : K.ltV (K.comb e.plain v) (v e.plain.head) := by rw [HC.out.1, HC.out.2.2, HC.out.2.1]; exact of_decide_eq_true HL.out
                have SN : Hid (SweepI (es.map REd.plain) n s0 (k + 1) (K.upd v hn' (c1, c2)) true) := by
                  have h1 := SW.out.1.step HEE.out (List.mem_of_getElem? HEK.out) hlt2
                  have h2 := SW.out.1.less HEE.out (List.mem_of_getElem? HEK.out) hlt2
                  rw [HC.out.1, HC.out.2.2] at h1 h2
                  refine ⟨h1, .inr ⟨rfl, ?_⟩⟩
                  rcases SW.out.2 with h3 | h3
                  · rw [← h3.2.1]; exact h2
                  · exact Nat.lt_trans h2 h3.2
                have KK := Lib.hid (R9.out.setV hn' hhl (c1, c2))
                have x0 : w9.cell? ⟨xb, 0, none⟩ = some (.int .i64 hn') := by simp only [World.cell?, X9.out]; rfl
                have u1 : w9.cell? ⟨yb, 0, none⟩ = some (.int .i64 c1) := by simp only [World.cell?, Y9.out]; rfl
                have u2 : w9.cell? ⟨yb, 1, none⟩ = some (.int .i64 c2) := by simp only [World.cell?, Y9.out]; rfl
                have x1 : w9.cell? ⟨bv, hn' * 2, none⟩ = some (.int .i64 q1) := by have := R9.out.vals.at_ hn' hhl 0 (.int .i64 q1) (by rw [HC.out.2.1]; rfl); exact this
                have x2 : w9.cell? ⟨bv, hn' * 2 + 1, none⟩ = some (.int .i64 q2) := by have := R9.out.vals.at_ hn' hhl 1 (.int .i64 q2) (by rw [HC.out.2.1]; rfl); exact this
                have f1 : w9.frozen? ⟨bv, hn' * 2, none⟩ = false := R9.out.vals.frozen _
                have f2 : w9.frozen? ⟨bv, hn' * 2 + 1, none⟩ = false := R9.out.vals.frozen _
                have hhz : (hn' : Int) < (n : Int) := by omega
                clear hlt2
                go_wp2_with fail
                go_roundg (es.length - (k + 1))
                case measure => omega
                case rel => exact ⟨k + 1, true, _, rfl, by go_num, by omega, by omega, KK.out, SN.out⟩
            · have hlz : ¬ (k : Int) < (es.length : Int) := by omega
              obtain rfl : es.length = k := by omega
              go_wp2_with fail
              go_roundg (2 * K.sumV v n + (if more then 1 else 0))
              case measure =>
                rcases HR.out.2.2 with ⟨rfl, h2, _⟩ | ⟨rfl, h2⟩
                · have := HG.out
                  simp only [Bool.false_eq_true, if_false]
                  omega
                · have := HG.out
                  simp only [if_true]
                  omega
              case rel => exact ⟨more, v, rfl, Nat.le_refl _, HR.out.1, HR.out.2.1, fun h => by
                rcases HR.out.2.2 with ⟨_, _, h2⟩ | ⟨h1, _⟩
                · exact h2
                · rw [h1] at h; cases h⟩
end Go.Proofs.Ytepfbhigeghjjaa.Q
namespace Go.Proofs.Ytepfbhigeghjjaa.Q
open Go.RowKit Go.Proofs.YtepfbhigeghjjaaW.PrintLast
set_option linter.unusedVariables false
set_option linter.unusedSimpArgs false
def SmallH (n : Int) (es : List REd) (m : Nat) : Prop := n = m ∧ 1 ≤ m ∧ m ≤ 30 ∧ es.length ≤ 60 ∧ ∀ e ∈ es, e.ok m
def FewTo (es : List REd) (i : Nat) : Prop := ∀ (j : Nat) e, j < i → es[j]? = some e → e.tails.length ≤ 4
theorem FewTo.all {es : List REd} (h : FewTo es es.length) : ∀ e ∈ es, e.tails.length ≤ 4 := fun e he => by
  obtain ⟨j, hj⟩ := List.getElem?_of_mem he
  exact h j e (List.getElem?_eq_some_iff.1 hj).1 hj
theorem FewTo.next {es : List REd} {i : Nat} {e : REd} (h : FewTo es i) (he : es[i]? = some e) (hk : e.tails.length ≤ 4) : FewTo es (i + 1) := fun j e' hj he' => by
  by_cases hji : j = i
  · subst hji
    rw [he] at he'
    cases he'
    exact hk
  · exact h j e' (by omega) he'
theorem small_of {n : Int} {es : List REd} (h30 : n ≤ 30) (h60 : es.length ≤ 60) (h4 : ∀ e ∈ es, e.tails.length ≤ 4) (h : ValidH n es) : ∃ m, SmallH n es m := by
  obtain ⟨h1, h2⟩ := h
  have hn : n = (n.toNat : Int) := (Int.toNat_of_nonneg (by omega)).symm
  refine ⟨n.toNat, hn, by omega, by omega, h60, fun e he => ?_⟩
  obtain ⟨k1, k2, k3, k4, k5⟩ := h2 e he
  rw [hn] at k2 k3
  exact ⟨k1, k2, k3, k4, k5, h4 e he⟩
set_option maxHeartbeats 4000000 in
set_option maxRecDepth 100000 in
theorem small76 {w : World} {A : Option Addr} {cap : Nat} (n : Int) (es : List REd) (hA : EdsIn w A es) : Calls Try.prog 76 #[.agg #[.int .i64 n, .slice A es.length cap]] w (YesPost w (∃ m, SmallH n es m)) := by
  have HA := Lib.hid hA
  clear hA
  obtain ⟨W1, hW1⟩ : ∃ W, W = w.alloc (.cells #[.int .i64 n, .slice A es.length cap] 48) := ⟨_, rfl⟩
  obtain ⟨hb, hhb⟩ : ∃ b, b = w.heap.size := ⟨_, rfl⟩
  have B1 : Hid (Below w.heap.size w W1) := by rw [hW1]; exact (Below.refl _ _).alloc (Nat.le_refl _) _
  have H1 : Hid (HBZ W1 hb n es.length cap A) := by show W1.heap[hb]? = _; rw [hW1, hhb]; exact heap_alloc_new w _
  have HW1 := Lib.hid (And.intro hW1 hhb)
  clear hW1 hhb
  by_cases h1 : 30 < n
  · go_enter Try.func76, Try.ntmps76
    go_wp2_with fail
    go_ret
    exact ⟨false, rfl, no_, (Below.refl _ _).alloc (Nat.le_refl _) _⟩
  by_cases h2 : (60 : Int) < (es.length : Int)
  · go_enter Try.func76, Try.ntmps76
    go_wp2_with fail
    go_ret
    exact ⟨false, rfl, no_, (Below.refl _ _).alloc (Nat.le_refl _) _⟩
  have HL : Hid (n ≤ 30 ∧ es.length ≤ 60) := ⟨by omega, by omega⟩
  go_enter Try.func76, Try.ntmps76
  go_wp2_with fail
  rw [← HW1.out.1, ← HW1.out.2]
  go_loopg [3] es.length (fun gk s3 wr => ∃ i : Nat, s3 = .int .i64 i ∧ i ≤ es.length ∧ es.length - i ≤ gk ∧ Hid (Below w.heap.size w wr ∧ HBZ wr hb n es.length cap A ∧ FewTo es i))
  case atStart => exact ⟨0, rfl, by omega, by omega, B1.out, H1.out, fun j _ h => absurd h (Nat.not_lt_zero j)⟩
  case round =>
    clear H1 B1 HW1
    obtain ⟨i, rfl, hi, hk, HR⟩ := hrel
    obtain ⟨y0, y1⟩ := HR.out.2.1.c
    by_cases hlt : i < es.length
    · have hlz : (i : Int) < (es.length : Int) := by omega
      obtain ⟨e, he⟩ : ∃ e, es[i]? = some e := ⟨_, List.getElem?_eq_getElem hlt⟩
      obtain ⟨b, o, rfl, z0, z1, z2, z3, z4⟩ := HA.out.c HR.out.1 he
      have HE := Lib.hid he
      clear he
      by_cases g1 : (4 : Int) < (e.tails.length : Int)
      · go_wp2_with fail
        go_ret
        exact ⟨false, rfl, no_, HR.out.1⟩
      have HG : Hid (e.tails.length ≤ 4) := by show _ ≤ _; omega
      go_wp2_with fail
      go_roundg (es.length - (i + 1))
      case measure => omega
      case rel => exact ⟨i + 1, by go_num, by omega, by omega, HR.out.1, HR.out.2.1, HR.out.2.2.next HE.out HG.out⟩
    · have hlz : ¬ (i : Int) < (es.length : Int) := by omega
      obtain rfl : es.length = i := by omega
      have CV := Lib.hid (valid87 (cap := cap) n es (HA.out.below HR.out.1) (by have := HL.out.2; omega) HR.out.2.2.all)
      go_wp2_with fail
      with_reducible refine CV.out.mono ?_
      rintro r w2 ⟨b, rfl, hb2, b2⟩
      have HB2 := Lib.hid (And.intro hb2 b2)
      clear hb2 b2
      go_wp2_with fail
      go_ret
      exact ⟨b, rfl, fun h => small_of HL.out.1 HL.out.2 HR.out.2.2.all (HB2.out.1 h), HR.out.1.trans (HB2.out.2.mono HR.out.1.size)⟩
/-- A hypergraph that the statements speak of: small, and its least values are of a size below Infinite. -/
def BoundedH (n : Int) (es : List REd) (m : Nat) (v : Nat → K.V) (f : Nat → Int) : Prop := SmallH n es m ∧ K.Sol (es.map REd.plain) m v f ∧ ∀ i, i < m → (v i).2 < K.INF
def SizeTo (v : Nat → K.V) (i : Nat) : Prop := ∀ j, j < i → (v j).2 < 1099511627776
set_option maxHeartbeats 4000000 in
set_option maxRecDepth 100000 in
theorem bounded49 {w : World} {A : Option Addr} {cap : Nat} (n : Int) (es : List REd) (hA : EdsIn w A es) : Calls Try.prog 49 #[.agg #[.int .i64 n, .slice A es.length cap]] w (YesPost w (∃ m v f, BoundedH n es m v f)) := by
  have HA := Lib.hid hA
  clear hA
  obtain ⟨W1, hW1⟩ : ∃ W, W = w.alloc (.cells #[.int .i64 n, .slice A es.length cap] 48) := ⟨_, rfl⟩
  obtain ⟨hb, hhb⟩ : ∃ b, b = w.heap.size := ⟨_, rfl⟩
  have B1 : Hid (Below w.heap.size w W1) := by rw [hW1]; exact (Below.refl _ _).alloc (Nat.le_refl _) _
  have H1 : Hid (HBZ W1 hb n es.length cap A) := by show W1.heap[hb]? = _; rw [hW1, hhb]; exact heap_alloc_new w _
  have HW1 := Lib.hid (And.intro hW1 hhb)
  have CS := Lib.hid (small76 (cap := cap) n es (HA.out.below B1.out))
  clear hW1 hhb
  go_enter Try.func49, Try.ntmps49
  go_wp2_with fail
  rw [← HW1.out.1, ← HW1.out.2]
  with_reducible refine CS.out.mono ?_
  rintro r w2 ⟨b, rfl, hb2, b2⟩
  have B2 : Hid (Below w.heap.size w w2) := B1.out.trans (b2.mono B1.out.size)
  have H2 := Lib.hid (H1.out.bel b2)
  have SM := Lib.hid hb2
  clear b2 hb2 H1 B1 HW1 CS
  cases b with
  | false =>
    go_wp2_with fail
    go_ret
    exact ⟨false, rfl, no_, B2.out⟩
  | true =>
    obtain ⟨m, hm⟩ := SM.out rfl
    obtain ⟨rfl, h1, h30, h60, hok⟩ := hm
    have C51 := Lib.hid (solve51 (ecap := cap) (HA.out.below B2.out) hok (by omega) (by omega))
    have HS : Hid (SmallH m es m) := ⟨rfl, h1, h30, h60, hok⟩
    obtain ⟨y0, y1⟩ := H2.out.c
    clear SM hok
    go_wp2_with fail
    with_reducible refine C51.out.mono ?_
    rintro r w3 ⟨bv, be, v, f, rfl, hs, hv, hf, b3, _, _⟩
    have B3 : Hid (Below w.heap.size w w3) := B2.out.trans (b3.mono B2.out.size)
    have HV := Lib.hid hv
    have HSO := Lib.hid hs
    clear b3 hv hs hf y0 y1 C51
    go_wp2_with fail
    go_loopg [5] m (fun gk s5 wr => ∃ i : Nat, s5 = .int .i64 i ∧ i ≤ m ∧ m - i ≤ gk ∧ Hid (Below w.heap.size w wr ∧ ValsAt wr bv m v ∧ SizeTo v i))
    case atStart => exact ⟨0, rfl, by omega, by omega, B3.out, HV.out, fun j h => absurd h (Nat.not_lt_zero j)⟩
    case round =>
      clear B3 HV
      obtain ⟨i, rfl, hi, hk, HR⟩ := hrel
      by_cases hlt : i < m
      · have hlz : (i : Int) < (m : Int) := by omega
        obtain ⟨x, hx⟩ : ∃ x, (v i).2 = x := ⟨_, rfl⟩
        have c1 : wr.cell? ⟨bv, i * 2 + 1, none⟩ = some (.int .i64 x) := by rw [← hx]; exact HR.out.2.1.at_ i hlt 1 _ rfl
        have HX := Lib.hid hx
        clear hx
        by_cases g1 : (1099511627776 : Int) ≤ x
        · go_wp2_with fail
          go_ret
          exact ⟨false, rfl, no_, HR.out.1⟩
        have HG : Hid (x < 1099511627776) := by show _ < _; omega
        go_wp2_with fail
        go_roundg (m - (i + 1))
        case measure => omega
        case rel => exact ⟨i + 1, by go_num, by omega, by omega, HR.out.1, HR.out.2.1, fun j hj => by
          by_cases hji : j = i
          · rw [hji, HX.out]; exact HG.out
          · exact HR.out.2.2 j (by omega)⟩
      · have hlz : ¬ (i : Int) < (m : Int) := by omega
        obtain rfl : m = i := by omega
        go_wp2_with fail
        go_ret
        exact ⟨true, rfl, fun _ => ⟨m, v, f, HS.out, HSO.out, HR.out.2.2⟩, HR.out.1⟩
theorem ValsAt.in_ {W : World} {b n : Nat} {v : Nat → K.V} (h : ValsAt W b n v) : ValsIn W (some ⟨b, 0, none⟩) ((List.range n).map v) := fun j y hy => by
  rw [List.getElem?_map] at hy
  obtain ⟨i, hi, rfl⟩ := Option.map_eq_some_iff.1 hy
  obtain ⟨h1, h2⟩ := List.getElem?_eq_some_iff.1 hi
  rw [List.getElem_range] at h2
  subst h2
  rw [List.length_range] at h1
  refine ⟨b, 0, rfl, ?_⟩
  rw [Nat.zero_add]
  exact h.at_ j h1
theorem ints_in {W : World} {b n : Nat} {f : Nat → Int} (h : W.rowIs b 3 n (fun i => .int .i64 (f i))) : IntsIn W (some ⟨b, 0, none⟩) ((List.range n).map f) := fun j y hy => by
  rw [List.getElem?_map] at hy
  obtain ⟨i, hi, rfl⟩ := Option.map_eq_some_iff.1 hy
  obtain ⟨h1, h2⟩ := List.getElem?_eq_some_iff.1 hi
  rw [List.getElem_range] at h2
  subst h2
  rw [List.length_range] at h1
  refine ⟨b, 0, rfl, ?_⟩
  rw [Nat.zero_add]
  exact h.cell h1
theorem same_vals {w : World} {a b n : Nat} {v : Nat → K.V} (hA : ValsAt w a n v) (hB : ValsAt w b n v) (hn : n ≤ 1000) : Calls Try.prog 52 #[.slice (some ⟨a, 0, none⟩) n n, .slice (some ⟨b, 0, none⟩) n n] w fun r w' => r = .returned (.bool true) ∧ Below w.heap.size w w' := by
  have := same52 (ca := n) (cb := n) _ hA.in_ hB.in_ (by rw [List.length_map, List.length_range]; omega)
  rw [List.length_map, List.length_range] at this
  exact this
theorem same_ints {w : World} {a b n : Nat} {f : Nat → Int} (hA : w.rowIs a 3 n (fun i => .int .i64 (f i))) (hB : w.rowIs b 3 n (fun i => .int .i64 (f i))) (hn : n ≤ 1000) : Calls Try.prog 53 #[.slice (some ⟨a, 0, none⟩) n n, .slice (some ⟨b, 0, none⟩) n n] w fun r w' => r = .returned (.bool true) ∧ Below w.heap.size w w' := by
  have := same53 (ca := n) (cb := n) _ (ints_in hA) (ints_in hB) (by rw [List.length_map, List.length_range]; omega)
  rw [List.length_map, List.length_range] at this
  exact this
theorem row_below {w W : World} {b n : Nat} {t : TypeId} {f : Nat → Value} (h : w.rowIs b t n f) (hb : Below w.heap.size w W) : W.rowIs b t n f := rowIs_eff h (Eff.of_below hb (fun _ => False)) (fun h => h)
theorem ValsAt.bel {w W : World} {b n : Nat} {v : Nat → K.V} (h : ValsAt w b n v) (hb : Below w.heap.size w W) : ValsAt W b n v := h.eff (Eff.of_below hb (fun _ => False)) (fun h => h)
end Go.Proofs.Ytepfbhigeghjjaa.Q
namespace Go.Proofs.Ytepfbhigeghjjaa.Q
open Go.RowKit Go.Proofs.YtepfbhigeghjjaaW.PrintLast
set_option linter.unusedVariables false
set_option linter.unusedSimpArgs false
def boolRow (d : Nat → Bool) (i : Nat) : Value := .bool (d i)
def AllPost (w : World) (d : Nat → Bool) (l : List Int) (r : Ending) (w' : World) : Prop := ∃ b, r = .returned (.bool b) ∧ (b = true ↔ ∀ t ∈ l, d t.toNat = true) ∧ Below w.heap.size w w'
def AllTo (d : Nat → Bool) (l : List Int) (i : Nat) : Prop := ∀ (j : Nat) t, j < i → l[j]? = some t → d t.toNat = true
set_option maxHeartbeats 4000000 in
set_option maxRecDepth 100000 in
theorem all83 {w : World} {A : Option Addr} {cap bd n : Nat} {d : Nat → Bool} (l : List Int) (hA : IntsIn w A l) (hd : w.rowIs bd 4 n (boolRow d)) (hl : ∀ t ∈ l, 0 ≤ t ∧ t < n) (hlen : l.length ≤ 1000000) : Calls Try.prog 83 #[.slice A l.length cap, .slice (some ⟨bd, 0, none⟩) n n] w (AllPost w d l) := by
  have HA := Lib.hid hA
  have HD := Lib.hid hd
  have HL := Lib.hid hl
  clear hA hd hl
  go_enter Try.func83, Try.ntmps83
  go_wp2_with fail
  go_loopg [5] l.length (fun gk s5 wr => ∃ i : Nat, s5 = .int .i64 i ∧ i ≤ l.length ∧ l.length - i ≤ gk ∧ Hid (Below w.heap.size w wr ∧ AllTo d l i))
  case atStart => exact ⟨0, rfl, by omega, by omega, Below.refl _ _, fun j _ h => absurd h (Nat.not_lt_zero j)⟩
  case round =>
    obtain ⟨i, rfl, hi, hk, HR⟩ := hrel
    by_cases hlt : i < l.length
    · have hlz : (i : Int) < (l.length : Int) := by omega
      obtain ⟨t, ht⟩ : ∃ t, l[i]? = some t := ⟨_, List.getElem?_eq_getElem hlt⟩
      obtain ⟨b, o, rfl, c0⟩ := HA.out.c HR.out.1 ht
      have htl := HL.out t (List.mem_of_getElem? ht)
      obtain ⟨tn, rfl⟩ : ∃ tn : Nat, t = tn := ⟨t.toNat, (Int.toNat_of_nonneg htl.1).symm⟩
      have htn : tn < n := by omega
      have htz : (tn : Int) < (n : Int) := by omega
      obtain ⟨x, hx⟩ : ∃ x, d tn = x := ⟨_, rfl⟩
      have c1 : wr.cell? ⟨bd, tn, none⟩ = some (.bool x) := by rw [← hx]; exact (row_below HD.out HR.out.1).cell htn
      have HT := Lib.hid (And.intro ht hx)
      clear ht htl hx
      cases x with
      | false =>
        go_wp2_with fail
        go_ret
        exact ⟨false, rfl, ⟨(fun h => by cases h), fun h => by have := h _ (List.mem_of_getElem? HT.out.1); rw [Int.toNat_natCast, HT.out.2] at this; exact this⟩, HR.out.1⟩
      | true =>
        go_wp2_with fail
        go_roundg (l.length - (i + 1))
        case measure => omega
        case rel => exact ⟨i + 1, by go_num, by omega, by omega, HR.out.1, fun j t' hj ht' => by
          by_cases hji : j = i
          · subst hji
            rw [HT.out.1] at ht'
            cases ht'
            rw [Int.toNat_natCast]
            exact HT.out.2
          · exact HR.out.2 j t' (by omega) ht'⟩
    · have hlz : ¬ (i : Int) < (l.length : Int) := by omega
      obtain rfl : l.length = i := by omega
      go_wp2_with fail
      go_ret
      exact ⟨true, rfl, ⟨fun _ t ht => by
        obtain ⟨j, hj⟩ := List.getElem?_of_mem ht
        exact HR.out.2 j t (List.getElem?_eq_some_iff.1 hj).1 hj, fun _ => rfl⟩, HR.out.1⟩
/-! ### Derivable -/
def cF (d : Nat → Bool) : Nat → Nat
  | 0 => 0
  | n + 1 => cF d n + (if d n = true then 0 else 1)
theorem cF_congr {d e : Nat → Bool} : ∀ n, (∀ i, i < n → d i = e i) → cF d n = cF e n
  | 0, _ => rfl
  | n + 1, h => by
    simp only [cF]
    rw [cF_congr n (fun i hi => h i (by omega)), h n (by omega)]
theorem cF_upd {d : Nat → Bool} {i : Nat} (hd : d i = false) : ∀ n, i < n → cF (K.upd d i true) n < cF d n
  | 0, h => by omega
  | n + 1, h => by
    simp only [cF]
    by_cases hi : i = n
    · subst hi
      rw [K.upd_self, cF_congr (d := K.upd d i true) (e := d) i (fun j hj => K.upd_ne d true (by omega : j ≠ i)), hd]
      simp
    · rw [K.upd_ne _ _ (by omega : n ≠ i)]
      have := cF_upd hd n (by omega)
      omega
structure DSt (w wr : World) (hb bd n ecap : Nat) (A : Option Addr) (es : List REd) (d : Nat → Bool) : Prop where
  hdr : HB wr hb n es.length ecap A
  row : wr.rowIs bd 4 n (boolRow d)
  below : Below w.heap.size w wr
  ge : w.heap.size ≤ bd
section
variable {w wr W : World} {hb bd n ecap : Nat} {A : Option Addr} {es : List REd} {d : Nat → Bool}
theorem DSt.bel (h : DSt w wr hb bd n ecap A es d) (hbl : Below wr.heap.size wr W) : DSt w W hb bd n ecap A es d :=
  ⟨below_heap hbl h.hdr, row_below h.row hbl, h.below.trans (hbl.mono h.below.size), h.ge⟩
theorem DSt.set (h : DSt w wr hb bd n ecap A es d) (i : Nat) : DSt w (wr.setCell ⟨bd, i, none⟩ (.bool true)) hb bd n ecap A es (K.upd d i true) := by
  have he : Eff (fun k => k = bd) wr (wr.setCell ⟨bd, i, none⟩ (.bool true)) := eff_setCell wr bd i _
  obtain ⟨c1, k1, _⟩ := h.row
  exact ⟨he.heap h.hdr (ne_of_type h.hdr k1 (by decide)), (h.row.set i (.bool true)).congr (fun j _ => by show _ = Value.bool (if j = i then true else d j); split <;> rfl), h.below.trans (he.belowB h.below.size (fun k hk => by rw [hk]; exact h.ge)), h.ge⟩
theorem DSt.c (h : DSt w wr hb bd n ecap A es d) : wr.cell? ⟨hb, 0, none⟩ = some (.int .i64 n) ∧ wr.cell? ⟨hb, 1, none⟩ = some (.slice A es.length ecap) := by
  have h1 := h.hdr
  unfold HB at h1
  simp [World.cell?, h1]
end
def ClosedTo (E : List K.Ed) (d : Nat → Bool) (k : Nat) : Prop := ∀ (j : Nat) e, j < k → E[j]? = some e → (∀ t ∈ e.tails, d t = true) → d e.head = true
theorem ClosedTo.next {E : List K.Ed} {d : Nat → Bool} {k : Nat} {e : K.Ed} (h : ClosedTo E d k) (he : E[k]? = some e) (hn : (∀ t ∈ e.tails, d t = true) → d e.head = true) : ClosedTo E d (k + 1) := fun j e' hj he' => by
  by_cases hjk : j = k
  · subst hjk
    rw [he] at he'
    cases he'
    exact hn
  · exact h j e' (by omega) he'
def SweepD (E : List K.Ed) (n s0 k : Nat) (d : Nat → Bool) (more : Bool) : Prop := (more = false ∧ cF d n = s0 ∧ ClosedTo E d k) ∨ (more = true ∧ cF d n < s0)
def DerPost (w : World) (n : Nat) (E : List K.Ed) (r : Ending) (w' : World) : Prop :=
  ∃ (bd : Nat) (d : Nat → Bool), r = .returned (.slice (some ⟨bd, 0, none⟩) n n) ∧ (∀ e ∈ E, (∀ t ∈ e.tails, d t = true) → d e.head = true) ∧ w'.rowIs bd 4 n (boolRow d) ∧ Below w.heap.size w w' ∧ w.heap.size ≤ bd
set_option maxHeartbeats 8000000 in
set_option maxRecDepth 100000 in
theorem derivable55 {w : World} {n ecap : Nat} {A : Option Addr} {es : List REd} (hA : EdsIn w A es) (hok : ∀ e ∈ es, e.ok n) (hn : n ≤ 1000) (hm : es.length ≤ 1000) :
    Calls Try.prog 55 #[.agg #[.int .i64 n, .slice A es.length ecap]] w (DerPost w n (es.map REd.plain)) := by
  have HA := Lib.hid hA
  have HOK := Lib.hid hok
  clear hA hok
  have hmk := makeB n (by omega)
  obtain ⟨W3, hW3⟩ : ∃ W, W = (w.alloc (.cells #[.int .i64 n, .slice A es.length ecap] 48)).alloc (oB n) := ⟨_, rfl⟩
  obtain ⟨hb, hhb⟩ : ∃ b, b = w.heap.size := ⟨_, rfl⟩
  obtain ⟨bd, hbd⟩ : ∃ b, b = w.heap.size + 1 := ⟨_, rfl⟩
  have R3 : Hid (DSt w W3 hb bd n ecap A es (fun _ => false)) := by
    have B := (((Below.refl w.heap.size w).alloc (Nat.le_refl _) (.cells #[.int .i64 n, .slice A es.length ecap] 48)).alloc (by simp) (oB n))
    have s1 : (w.alloc (.cells #[.int .i64 n, .slice A es.length ecap] 48)).heap.size = w.heap.size + 1 := by simp
    have h1 := (eff_alloc _ (oB n)).heap (heap_alloc_new w (.cells #[.int .i64 n, .slice A es.length ecap] 48)) (fun h => h)
    have h2 := heap_alloc_new (w.alloc (.cells #[.int .i64 n, .slice A es.length ecap] 48)) (oB n)
    rw [s1] at h2
    rw [hW3, hhb, hbd]
    exact ⟨h1, row_of h2, B, by omega⟩
  have HW := Lib.hid (And.intro hW3 (And.intro hhb hbd))
  clear hW3 hhb hbd
  go_enter Try.func55, Try.ntmps55
  go_wp2_with fail
  rw [← HW.out.1, ← HW.out.2.2, ← HW.out.2.1]
  clear hmk
  obtain ⟨M, hM⟩ : ∃ M, M = 2 * cF (fun _ => false) n + 1 := ⟨_, rfl⟩
  have HM := Lib.hid hM
  clear hM
  go_loopg [4] M (fun gk s4 wr => ∃ (more : Bool) (d : Nat → Bool), s4 = .bool more ∧ Hid (2 * cF d n + (if more then 1 else 0) ≤ gk ∧ DSt w wr hb bd n ecap A es d ∧ (more = false → ClosedTo (es.map REd.plain) d es.length)))
  case atStart => exact ⟨true, fun _ => false, rfl, by rw [HM.out]; exact Nat.le_refl _, R3.out, fun h => by cases h⟩
  case round =>
    clear R3 HM HW
    obtain ⟨more, d, rfl, HR⟩ := hrel
    cases more with
    | false =>
      go_wp2_with fail
      go_ret
      refine ⟨bd, d, rfl, fun e he => ?_, HR.out.2.1.row, HR.out.2.1.below, HR.out.2.1.ge⟩
      obtain ⟨j, hj⟩ := List.getElem?_of_mem he
      exact HR.out.2.2 (by first | rfl | trivial) j e (by have := (List.getElem?_eq_some_iff.1 hj).1; rwa [List.length_map] at this) hj
    | true =>
      obtain ⟨s0, hs0⟩ : ∃ s0, cF d n = s0 := ⟨_, rfl⟩
      have I5 : Hid (SweepD (es.map REd.plain) n s0 0 d false) := .inl ⟨rfl, hs0, fun j e hj => absurd hj (Nat.not_lt_zero _)⟩
      have HG : Hid (2 * s0 + 1 ≤ gk) := by rw [← hs0]; exact HR.out.1
      have R5 : Hid (DSt w wr hb bd n ecap A es d) := HR.out.2.1
      obtain ⟨d0, hd0⟩ : ∃ d0, d0 = d := ⟨_, rfl⟩
      rw [← hd0] at R5 I5
      clear HR hs0 hd0
      clear d
      go_wp2_with fail
      go_loopg [4, 5] es.length (fun gj s4 s5 wr => ∃ (k : Nat) (more : Bool) (d : Nat → Bool), s4 = .bool more ∧ s5 = .int .i64 k ∧ k ≤ es.length ∧ es.length - k ≤ gj ∧ Hid (DSt w wr hb bd n ecap A es d ∧ SweepD (es.map REd.plain) n s0 k d more))
      case atStart => exact ⟨0, false, d0, rfl, rfl, by omega, by omega, R5.out, I5.out⟩
      case round =>
        clear R5 I5
        obtain ⟨k, more, d, rfl, rfl, hi, hk, HR⟩ := hrel
        have RR : Hid (DSt w wr hb bd n ecap A es d) := HR.out.1
        have SW := Lib.hid HR.out.2
        obtain ⟨y0, y1⟩ := RR.out.c
        clear HR
        by_cases hlt : k < es.length
        · have hlz : (k : Int) < (es.length : Int) := by omega
          obtain ⟨e, he⟩ : ∃ e, es[k]? = some e := ⟨_, List.getElem?_eq_getElem hlt⟩
          have hok := HOK.out e (List.mem_of_getElem? he)
          have hti := HA.out.tails e (List.mem_of_getElem? he)
          obtain ⟨b, o, rfl, z0, z1, z2, z3, z4⟩ := HA.out.c RR.out.below he
          have HEK : Hid ((es.map REd.plain)[k]? = some e.plain) := by show _ = _; rw [List.getElem?_map, he]; rfl
          obtain ⟨hn', hhn⟩ : ∃ x, e.head.toNat = x := ⟨_, rfl⟩
          have hhe : e.head = (hn' : Int) := by rw [← hhn, Int.toNat_of_nonneg hok.1]
          have hhl : hn' < n := by have := hok.2.1; omega
          have hhz : (hn' : Int) < (n : Int) := by omega
          have hph : e.plain.head = hn' := hhn
          rw [hhe] at z0
          obtain ⟨W2, hW2⟩ : ∃ W, W = wr.alloc (.cells #[.int .i64 hn', .slice e.A e.tails.length e.cap, .int .i64 e.cost, .int .i64 e.l0, .int .i64 e.l1] 60) := ⟨_, rfl⟩
          obtain ⟨xb, hxb⟩ : ∃ b, b = wr.heap.size := ⟨_, rfl⟩
          have B2 : Below wr.heap.size wr W2 := by rw [hW2]; exact (Below.refl _ _).alloc (Nat.le_refl _) _
          have X2 : Hid (W2.heap[xb]? = some (.cells #[.int .i64 hn', .slice e.A e.tails.length e.cap, .int .i64 e.cost, .int .i64 e.l0, .int .i64 e.l1] 60 (0, 0))) := by show _ = _; rw [hW2, hxb]; exact heap_alloc_new wr _
          have R2 := Lib.hid (RR.out.bel B2)
          obtain ⟨x, hx⟩ : ∃ x, d hn' = x := ⟨_, rfl⟩
          have a1 : (wr.alloc (.cells #[.int .i64 hn', .slice e.A e.tails.length e.cap, .int .i64 e.cost, .int .i64 e.l0, .int .i64 e.l1] 60)).cell? ⟨bd, hn', none⟩ = some (.bool x) := by rw [← hW2, ← hx]; exact R2.out.row.cell hhl
          have CA := Lib.hid (all83 (cap := e.cap) e.tails ((hti.below RR.out.below).below B2) R2.out.row hok.2.2.1 (by have := hok.2.2.2.2.2; omega))
          have HC := Lib.hid (And.intro hx hph)
          have HW2 := Lib.hid (And.intro hW2 hxb)
          have HTL : Hid ((∀ t ∈ e.tails, d t.toNat = true) ↔ ∀ t ∈ e.plain.tails, d t = true) := by
            constructor
            · intro h t ht
              obtain ⟨t0, h0, rfl⟩ := List.mem_map.1 ht
              exact h t0 h0
            · intro h t ht
              exact h _ (List.mem_map.2 ⟨t, ht, rfl⟩)
          clear RR he hok hti hhn hhe hph hW2 hxb B2 hx
          cases x with
          | true =>
            have SN : Hid (SweepD (es.map REd.plain) n s0 (k + 1) d more) := SW.out.imp (fun ⟨h1, h2, h3⟩ => ⟨h1, h2, h3.next HEK.out (fun _ => by rw [HC.out.2]; exact HC.out.1)⟩) id
            go_wp2_with fail
            rw [← HW2.out.1]
            go_roundg (es.length - (k + 1))
            case measure => omega
            case rel => exact ⟨k + 1, more, d, rfl, by go_num, by omega, by omega, R2.out, SN.out⟩
          | false =>
            go_wp2_with fail
            rw [← HW2.out.1, ← HW2.out.2]
            clear z0 z1 z2 z3 z4 y0 y1 a1
            with_reducible refine CA.out.mono ?_
            rintro r w8 ⟨b, rfl, hb8, b8⟩
            have R8 := Lib.hid (R2.out.bel b8)
            have X8 := Lib.hid (below_heap b8 X2.out)
            have HB8 := Lib.hid hb8
            clear hb8 b8 R2 X2
            cases b with
            | false =>
              have SN : Hid (SweepD (es.map REd.plain) n s0 (k + 1) d more) := SW.out.imp (fun ⟨h1, h2, h3⟩ => ⟨h1, h2, h3.next HEK.out (fun h => by have := HB8.out.2 (HTL.out.2 h); cases this)⟩) id
              go_wp2_with fail
              go_roundg (es.length - (k + 1))
              case measure => omega
              case rel => exact ⟨k + 1, more, d, rfl, by go_num, by omega, by omega, R8.out, SN.out⟩
            | true =>
              have SN : Hid (SweepD (es.map REd.plain) n s0 (k + 1) (K.upd d hn' true) true) := by
                have h2 := cF_upd HC.out.1 n hhl
                refine .inr ⟨rfl, ?_⟩
                rcases SW.out with h3 | h3
                · rw [← h3.2.1]; exact h2
                · exact Nat.lt_trans h2 h3.2
              have x0 : w8.cell? ⟨xb, 0, none⟩ = some (.int .i64 hn') := by simp only [World.cell?, X8.out]; rfl
              have u1 : w8.cell? ⟨bd, hn', none⟩ = some (.bool false) := by have := R8.out.row.cell hhl; unfold boolRow at this; rwa [HC.out.1] at this
              have u2 : w8.frozen? ⟨bd, hn', none⟩ = false := R8.out.row.frozen hn'
              go_wp2_with fail
              go_roundg (es.length - (k + 1))
              case measure => omega
              case rel => exact ⟨k + 1, true, _, rfl, by go_num, by omega, by omega, R8.out.set hn', SN.out⟩
        · have hlz : ¬ (k : Int) < (es.length : Int) := by omega
          obtain rfl : es.length = k := by omega
          go_wp2_with fail
          go_roundg (2 * cF d n + (if more then 1 else 0))
          case measure =>
            rcases SW.out with ⟨rfl, h2, _⟩ | ⟨rfl, h2⟩
            · have := HG.out
              simp only [Bool.false_eq_true, if_false]
              omega
            · have := HG.out
              simp only [if_true]
              omega
          case rel => exact ⟨more, d, rfl, Nat.le_refl _, RR.out, fun h => by
            rcases SW.out with ⟨_, _, h2⟩ | ⟨h1, _⟩
            · exact h2
            · rw [h1] at h; cases h⟩
end Go.Proofs.Ytepfbhigeghjjaa.Q
