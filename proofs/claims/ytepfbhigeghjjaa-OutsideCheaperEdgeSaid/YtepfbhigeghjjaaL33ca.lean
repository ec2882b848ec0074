/- OutsideCheaperEdge: the regions that draw. -/
import Derived.Test.YtepfbhigeghjjaaO33y
import Derived.Test.YtepfbhigeghjjaaKPx
import Derived.Test.YtepfbhigeghjjaaK4
namespace Go.Proofs.Ytepfbhigeghjjaa.Q
open Go.RowKit Go.Proofs.YtepfbhigeghjjaaW.PrintLast
set_option linter.unusedVariables false
set_option linter.unusedSimpArgs false

theorem two0 (W : World) (a b : Obj) : ((W.alloc a).alloc b).drew.heap[W.heap.size]? = some a := (two_alloc W a b).1
theorem two1 (W : World) (a b : Obj) : ((W.alloc a).alloc b).drew.heap[W.heap.size + 1]? = some b := (two_alloc W a b).2
theorem lit_a (W : World) : Own (W.alloc (.cells #[] 60)).drew W.heap.size 60 5 (some ⟨W.heap.size, 0, none⟩) 0 encE ([] : List REd) := Own.lit kindE W W.heap.size (Nat.le_refl _) ([] : List REd) (by decide)
theorem lit_b (W : World) : Own ((W.alloc (.cells #[] 60)).alloc (.cells #[.int .i64 0, .slice none 0 0] 48)).drew W.heap.size 60 5 (some ⟨W.heap.size, 0, none⟩) 0 encE ([] : List REd) :=
  (Own.lit kindE W W.heap.size (Nat.le_refl _) ([] : List REd) (by decide)).bel ((Below.refl _ _).alloc (Nat.le_refl _) _).drew
theorem lit_c (W : World) : Own ((W.alloc (.cells #[.int .i64 0, .slice none 0 0] 48)).alloc (.cells #[] 60)).drew W.heap.size 60 5 (some ⟨W.heap.size + 1, 0, none⟩) 0 encE ([] : List REd) := by
  have h := Own.lit kindE (W.alloc (.cells #[.int .i64 0, .slice none 0 0] 48)) W.heap.size (by simp) ([] : List REd) (by decide)
  rw [show (W.alloc (.cells #[.int .i64 0, .slice none 0 0] 48)).heap.size = W.heap.size + 1 by simp] at h
  exact h
theorem che_set {wr w1 : World} {ub g c1 : Nat} {es : List REd} (hb : Below wr.heap.size wr w1) (h1 : w1.heap[ub]? = some (.cells #[.int .i64 0, .slice none 0 0] 48 (0, 0))) (ho : Own w1 wr.heap.size 60 5 (some ⟨g, 0, none⟩) c1 encE es) (h3 : wr.heap.size ≤ ub) (n : Int) (len : Nat) :
    Below wr.heap.size wr (w1.setCells ub 0 [.int .i64 n, .slice (some ⟨g, 0, none⟩) len c1]) ∧ HBZ (w1.setCells ub 0 [.int .i64 n, .slice (some ⟨g, 0, none⟩) len c1]) ub n len c1 (some ⟨g, 0, none⟩) ∧ Own (w1.setCells ub 0 [.int .i64 n, .slice (some ⟨g, 0, none⟩) len c1]) wr.heap.size 60 5 (some ⟨g, 0, none⟩) c1 encE es ∧ wr.heap.size ≤ ub := by
  have e : w1.setCells ub 0 [.int .i64 n, .slice (some ⟨g, 0, none⟩) len c1] = (w1.setCell ⟨ub, 0, none⟩ (.int .i64 n)).setCell ⟨ub, 0 + 1, none⟩ (.slice (some ⟨g, 0, none⟩) len c1) := rfl
  obtain ⟨_, cs, hcs⟩ := ho.blk rfl
  have hne : g ≠ ub := ne_of_type hcs h1 (by decide)
  refine ⟨?_, ?_, ho.eff (eff_setCells ub _ 0 w1).1 (fun k _ _ hk => by cases hk; exact hne), h3⟩
  · rw [e]
    exact (hb.setCell (p := ⟨ub, 0, none⟩) h3 _).setCell (p := ⟨ub, 0 + 1, none⟩) h3 _
  · rw [e]
    exact set_cell (set_cell h1 0 _) 1 _
set_option maxHeartbeats 2000000 in
set_option maxRecDepth 100000 in
theorem che_r6 {hb eb eo len cap : Nat} {n : Int} {es : List REd} {Q : Exit → Act → World → Prop} (hp : ∀ c (a : Act) (i : Nat) (v : Value) w, Q (.panic c) (a.put (some i) v) w → Q (.panic c) a w)
    {u0 u1 u2 u4 u5 u6 u7 u8 u9 u10 u11 u12 u13 u14 u15 u16 u17 u18 u19 u20 u21 u22 u23 u24 u25 u26 u27 u28 u29 u30 u31 u32 u33 u34 u35 u36 u37 u38 u39 u40 u41 u42 u43 u44 u45 u46 u47 u48 u49 u50 u51 u52 u53 u54 u55 u56 u57 u58 u59 u60 u61 u62 u63 u64 u65 u66 u67 u68 u69 u70 u71 u72 u73 u74 u75 u76 u77 u78 u79 u80 u81 u82 u83 u84 u85 u86 u87 u88 u89 u90 u91 u92 u93 u94 u95 u96 u97 u98 u99 u100 u101 u102 u103 u104 u105 u106 u107 u108 u109 u110 u111 u112 u113 u114 u115 u116 : Value} {wr : World} (HLT : hb < wr.heap.size) (H0 : wr.cell? ⟨hb, 0, none⟩ = some (.int .i64 n)) (H1 : wr.cell? ⟨hb, 1, none⟩ = some (.slice (some ⟨eb, eo, none⟩) len cap)) (APP : Hid (∀ (W : World) (b : Nat), Own W wr.heap.size 60 5 (some ⟨b, 0, none⟩) 0 encE ([] : List REd) → Below wr.heap.size wr W → ∃ (g c1 : Nat) (w5 : World), (Builtin.append_ #[46, 46] 46 #[.slice (some ⟨b, 0, none⟩) 0 0, .slice (some ⟨eb, eo, none⟩) len cap]).run Try.prog W = .ok (.slice (some ⟨g, 0, none⟩) len c1) w5 ∧ Own w5 wr.heap.size 60 5 (some ⟨g, 0, none⟩) c1 encE es ∧ Below wr.heap.size W w5 ∧ Eff (fun k => k = b) W w5))
    (hQ : ∀ (g c1 ub : Nat) (w8 : World), (Below wr.heap.size wr w8 ∧ HBZ w8 ub n len c1 (some ⟨g, 0, none⟩) ∧ Own w8 wr.heap.size 60 5 (some ⟨g, 0, none⟩) c1 encE es ∧ wr.heap.size ≤ ub) → ∀ (t31 t32 t33 t34 t35 t36 t37 : Value), Q .normal { tmps := #[u0, u1, u2, .pointer (some ⟨hb, 0, none⟩), u4, u5, u6, u7, .pointer (some ⟨ub, 0, none⟩), u9, u10, u11, u12, u13, u14, u15, u16, u17, u18, u19, u20, u21, u22, u23, u24, u25, u26, u27, u28, u29, u30, t31, t32, t33, t34, t35, t36, t37, u38, u39, u40, u41, u42, u43, u44, u45, u46, u47, u48, u49, u50, u51, u52, u53, u54, u55, u56, u57, u58, u59, u60, u61, u62, u63, u64, u65, u66, u67, u68, u69, u70, u71, u72, u73, u74, u75, u76, u77, u78, u79, u80, u81, u82, u83, u84, u85, u86, u87, u88, u89, u90, u91, u92, u93, u94, u95, u96, u97, u98, u99, u100, u101, u102, u103, u104, u105, u106, u107, u108, u109, u110, u111, u112, u113, u114, u115, u116], defers := [] } (w8)) :
    Code.wp Try.prog (reg (Try.f10) 6) Q { tmps := #[u0, u1, u2, .pointer (some ⟨hb, 0, none⟩), u4, u5, u6, u7, u8, u9, u10, u11, u12, u13, u14, u15, u16, u17, u18, u19, u20, u21, u22, u23, u24, u25, u26, u27, u28, u29, u30, u31, u32, u33, u34, u35, u36, u37, u38, u39, u40, u41, u42, u43, u44, u45, u46, u47, u48, u49, u50, u51, u52, u53, u54, u55, u56, u57, u58, u59, u60, u61, u62, u63, u64, u65, u66, u67, u68, u69, u70, u71, u72, u73, u74, u75, u76, u77, u78, u79, u80, u81, u82, u83, u84, u85, u86, u87, u88, u89, u90, u91, u92, u93, u94, u95, u96, u97, u98, u99, u100, u101, u102, u103, u104, u105, u106, u107, u108, u109, u110, u111, u112, u113, u114, u115, u116], defers := [] } wr := by
  have HQ := Lib.hid hQ
  have HP := Lib.hid hp
  clear hQ hp
  refine start_ (n := 9) (S := fun w' => w'.cell? ⟨hb, 0, none⟩ = some (.int .i64 n) ∧ w'.cell? ⟨hb, 1, none⟩ = some (.slice (some ⟨eb, eo, none⟩) len cap)) (ds := [8]) #[false, false, false, false, false, false, false, false, false] (by kernel_rfl) rfl rfl ⟨H0, H1⟩ (fun hHeld => ?_)
  refine pure_ (i := 0) (N := some 31) (v := ?_) (a' := ?_) #[true, false, false, false, false, false, false, false, false] rfl rfl (by kernel_rfl) (fun c a w h => HP.out c a _ _ w h) (Or.inl ⟨by rfl, ?_⟩) ?_ ?_
  rotate_left
  · intro w'
    go_simp
    with_reducible rfl
  rotate_left
  · simp only [Act.put, List.setIfInBounds_toArray, List.set_cons_zero, List.set_cons_succ, i64_w, i32_w]
    rfl
  refine pure_ (i := 3) (N := some 34) (v := ?_) (a' := ?_) #[true, false, false, true, false, false, false, false, false] rfl rfl (by kernel_rfl) (fun c a w h => HP.out c a _ _ w h) (Or.inl ⟨by rfl, ?_⟩) ?_ ?_
  rotate_left
  · intro w'
    go_simp
    with_reducible rfl
  rotate_left
  · simp only [Act.put, List.setIfInBounds_toArray, List.set_cons_zero, List.set_cons_succ, i64_w, i32_w]
    rfl
  refine take_ (i := 1) (N := some 32) (v := ?_) (a' := ?_) #[true, true, false, true, false, false, false, false, false] rfl rfl (by kernel_rfl) (fun c a w h => HP.out c a _ _ w h) (Or.inl ⟨by rfl, ?_⟩) hHeld ?_ ?_
  rotate_left
  · rintro w' ⟨s0, s1⟩
    go_simp
    with_reducible rfl
  rotate_left
  · simp only [Act.put, List.setIfInBounds_toArray, List.set_cons_zero, List.set_cons_succ, i64_w, i32_w]
    rfl
  refine take_ (i := 4) (N := some 35) (v := ?_) (a' := ?_) #[true, true, false, true, true, false, false, false, false] rfl rfl (by kernel_rfl) (fun c a w h => HP.out c a _ _ w h) (Or.inl ⟨by rfl, ?_⟩) hHeld ?_ ?_
  rotate_left
  · rintro w' ⟨s0, s1⟩
    go_simp
    with_reducible rfl
  rotate_left
  · simp only [Act.put, List.setIfInBounds_toArray, List.set_cons_zero, List.set_cons_succ, i64_w, i32_w]
    rfl
  refine join_ (σ := Nat × Nat × Nat × Nat) 1 #[true, true, true, true, true, true, true, true, false] (fun s => [(33, .slice (some ⟨s.1, 0, none⟩) 0 0), (36, .slice (some ⟨s.2.1, 0, none⟩) len s.2.2.1), (37, .agg #[.int .i64 n, .slice (some ⟨s.2.1, 0, none⟩) len s.2.2.1]), (8, .pointer (some ⟨s.2.2.2, 0, none⟩))]) (fun s w' => w'.heap[s.2.2.2]? = some (.cells #[.int .i64 0, .slice none 0 0] 48 (0, 0)) ∧ Own w' wr.heap.size 60 5 (some ⟨s.2.1, 0, none⟩) s.2.2.1 encE es ∧ Below wr.heap.size wr w' ∧ wr.heap.size ≤ s.2.2.2 ∧ (w'.cell? ⟨hb, 0, none⟩ = some (.int .i64 n) ∧ w'.cell? ⟨hb, 1, none⟩ = some (.slice (some ⟨eb, eo, none⟩) len cap))) ?_ ?_
  rotate_left
  · intro hCont
    refine two_ (i := 2) (j := 7) (Ni := some 33) (Nj := some 8) #[true, true, true, true, true, false, false, false, false] #[true, true, false, true, true, false, false, true, false] rfl rfl rfl rfl (by kernel_rfl) (by decide) (by decide) (fun K hK => ?_) (fun K hK => ?_)
    · skip
      refine value_ (w1 := ?_) (v := ?_) (by rfl) rfl ?_ ?_
      rotate_left 2
      · go_simp
        constructor
        · rfl
        · rfl
      refine hK.out _ _ ⟨(Eff.cell (eff_alloc _ _) hHeld.1 (fun h => h)), (Eff.cell (eff_alloc _ _) hHeld.2 (fun h => h))⟩ (fun hHeld => ?_)
      clear hK K
      refine norm_ (a' := ?_) ?_ ?_
      rotate_left
      · show Act.put _ (some 33) _ = _
        simp only [Act.put, List.setIfInBounds_toArray, List.set_cons_zero, List.set_cons_succ, i64_w, i32_w]
        rfl
      refine two_ (i := 5) (j := 7) (Ni := some 36) (Nj := some 8) #[true, true, true, true, true, true, false, false, false] #[true, true, true, true, true, false, false, true, false] rfl rfl rfl rfl (by kernel_rfl) (by decide) (by decide) (fun K hK => ?_) (fun K hK => ?_)
      · skip
        obtain ⟨g, c1, w5, hap, hown, hb5, ea⟩ := APP.out _ _ (lit_a wr) (((Below.refl wr.heap.size wr).alloc (Nat.le_refl _) _).drew)
        refine value_ (w1 := w5) (v := .slice (some ⟨g, 0, none⟩) len c1) (by rfl) rfl (exec_append rfl (by rfl) (by rfl) hap) ?_
        have OB5 := Lib.hid (And.intro hown ((((Below.refl wr.heap.size wr).alloc (Nat.le_refl _) _).drew).trans hb5))
        clear hap hown hb5
        refine hK.out _ _ ⟨(Eff.cell ea hHeld.1 (fun h => by have := HLT; have h : hb = _ := h; omega)), (Eff.cell ea hHeld.2 (fun h => by have := HLT; have h : hb = _ := h; omega))⟩ (fun hHeld => ?_)
        clear hK K
        refine norm_ (a' := ?_) ?_ ?_
        rotate_left
        · show Act.put _ (some 36) _ = _
          simp only [Act.put, List.setIfInBounds_toArray, List.set_cons_zero, List.set_cons_succ, i64_w, i32_w]
          rfl
        refine pure_ (i := 6) (N := some 37) (v := ?_) (a' := ?_) #[true, true, true, true, true, true, true, false, false] rfl rfl (by kernel_rfl) (fun c a w h => HP.out c a _ _ w h) (Or.inl ⟨by rfl, ?_⟩) ?_ ?_
        rotate_left
        · intro w'
          go_simp
          with_reducible rfl
        rotate_left
        · simp only [Act.put, List.setIfInBounds_toArray, List.set_cons_zero, List.set_cons_succ, i64_w, i32_w]
          rfl
        refine one_ (i := 7) (N := some 8) #[true, true, true, true, true, true, true, true, false] rfl rfl (by kernel_rfl) (by decide) (fun K hK => ?_)
        refine value_ (w1 := ?_) (v := ?_) (by rfl) rfl ?_ ?_
        rotate_left 2
        · go_simp
          constructor
          · rfl
          · rfl
        refine hK.out _ _ ⟨(Eff.cell (eff_alloc _ _) hHeld.1 (fun h => h)), (Eff.cell (eff_alloc _ _) hHeld.2 (fun h => h))⟩ (fun hHeld => ?_)
        clear hK K
        refine norm_ (a' := ?_) ?_ ?_
        rotate_left
        · show Act.put _ (some 8) _ = _
          simp only [Act.put, List.setIfInBounds_toArray, List.set_cons_zero, List.set_cons_succ, i64_w, i32_w]
          rfl
        exact norm_ (by simp only [putAll, Act.put, List.setIfInBounds_toArray, List.set_cons_zero, List.set_cons_succ]) (hCont (wr.heap.size, g, c1, w5.heap.size) _ ⟨heap_alloc_new w5 _, OB5.out.1.bel ((Below.refl _ _).alloc (Nat.le_refl _) _), OB5.out.2.alloc OB5.out.2.size _, OB5.out.2.size, hHeld⟩)
      · skip
        refine value_ (w1 := ?_) (v := ?_) (by rfl) rfl ?_ ?_
        rotate_left 2
        · go_simp
          constructor
          · rfl
          · rfl
        refine hK.out _ _ ⟨(Eff.cell (eff_alloc _ _) hHeld.1 (fun h => h)), (Eff.cell (eff_alloc _ _) hHeld.2 (fun h => h))⟩ (fun hHeld => ?_)
        clear hK K
        refine norm_ (a' := ?_) ?_ ?_
        rotate_left
        · show Act.put _ (some 8) _ = _
          simp only [Act.put, List.setIfInBounds_toArray, List.set_cons_zero, List.set_cons_succ, i64_w, i32_w]
          rfl
        refine one_ (i := 5) (N := some 36) #[true, true, true, true, true, true, false, true, false] rfl rfl (by kernel_rfl) (by decide) (fun K hK => ?_)
        obtain ⟨g, c1, w5, hap, hown, hb5, ea⟩ := APP.out _ _ (lit_b wr) ((((Below.refl wr.heap.size wr).alloc (Nat.le_refl _) _).alloc (by simp) _).drew)
        refine value_ (w1 := w5) (v := .slice (some ⟨g, 0, none⟩) len c1) (by rfl) rfl (exec_append rfl (by rfl) (by rfl) hap) ?_
        have OB5 := Lib.hid (And.intro hown (((((Below.refl wr.heap.size wr).alloc (Nat.le_refl _) _).alloc (by simp) _).drew).trans hb5))
        have ZB5 := Lib.hid (ea.heap (two1 wr _ _) (fun h => by have h : wr.heap.size + 1 = wr.heap.size := h; omega))
        clear hap hown hb5
        refine hK.out _ _ ⟨(Eff.cell ea hHeld.1 (fun h => by have := HLT; have h : hb = _ := h; omega)), (Eff.cell ea hHeld.2 (fun h => by have := HLT; have h : hb = _ := h; omega))⟩ (fun hHeld => ?_)
        clear hK K
        refine norm_ (a' := ?_) ?_ ?_
        rotate_left
        · show Act.put _ (some 36) _ = _
          simp only [Act.put, List.setIfInBounds_toArray, List.set_cons_zero, List.set_cons_succ, i64_w, i32_w]
          rfl
        refine pure_ (i := 6) (N := some 37) (v := ?_) (a' := ?_) #[true, true, true, true, true, true, true, true, false] rfl rfl (by kernel_rfl) (fun c a w h => HP.out c a _ _ w h) (Or.inl ⟨by rfl, ?_⟩) ?_ ?_
        rotate_left
        · intro w'
          go_simp
          with_reducible rfl
        rotate_left
        · simp only [Act.put, List.setIfInBounds_toArray, List.set_cons_zero, List.set_cons_succ, i64_w, i32_w]
          rfl
        exact norm_ (by simp only [putAll, Act.put, List.setIfInBounds_toArray, List.set_cons_zero, List.set_cons_succ]) (hCont (wr.heap.size, g, c1, wr.heap.size + 1) _ ⟨ZB5.out, OB5.out.1, OB5.out.2, Nat.le_succ _, hHeld⟩)
    · skip
      refine value_ (w1 := ?_) (v := ?_) (by rfl) rfl ?_ ?_
      rotate_left 2
      · go_simp
        constructor
        · rfl
        · rfl
      refine hK.out _ _ ⟨(Eff.cell (eff_alloc _ _) hHeld.1 (fun h => h)), (Eff.cell (eff_alloc _ _) hHeld.2 (fun h => h))⟩ (fun hHeld => ?_)
      clear hK K
      refine norm_ (a' := ?_) ?_ ?_
      rotate_left
      · show Act.put _ (some 8) _ = _
        simp only [Act.put, List.setIfInBounds_toArray, List.set_cons_zero, List.set_cons_succ, i64_w, i32_w]
        rfl
      refine one_ (i := 2) (N := some 33) #[true, true, true, true, true, false, false, true, false] rfl rfl (by kernel_rfl) (by decide) (fun K hK => ?_)
      refine value_ (w1 := ?_) (v := ?_) (by rfl) rfl ?_ ?_
      rotate_left 2
      · go_simp
        constructor
        · rfl
        · rfl
      refine hK.out _ _ ⟨(Eff.cell (eff_alloc _ _) hHeld.1 (fun h => h)), (Eff.cell (eff_alloc _ _) hHeld.2 (fun h => h))⟩ (fun hHeld => ?_)
      clear hK K
      refine norm_ (a' := ?_) ?_ ?_
      rotate_left
      · show Act.put _ (some 33) _ = _
        simp only [Act.put, List.setIfInBounds_toArray, List.set_cons_zero, List.set_cons_succ, i64_w, i32_w]
        rfl
      refine one_ (i := 5) (N := some 36) #[true, true, true, true, true, true, false, true, false] rfl rfl (by kernel_rfl) (by decide) (fun K hK => ?_)
      obtain ⟨g, c1, w5, hap, hown, hb5, ea⟩ := APP.out _ _ (lit_c wr) ((((Below.refl wr.heap.size wr).alloc (Nat.le_refl _) _).alloc (by simp) _).drew)
      refine value_ (w1 := w5) (v := .slice (some ⟨g, 0, none⟩) len c1) (by rfl) rfl (exec_append rfl (by rfl) (by rfl) hap) ?_
      have OB5 := Lib.hid (And.intro hown (((((Below.refl wr.heap.size wr).alloc (Nat.le_refl _) _).alloc (by simp) _).drew).trans hb5))
      have ZB5 := Lib.hid (ea.heap (two0 wr _ _) (fun h => by have h : wr.heap.size = wr.heap.size + 1 := h; omega))
      clear hap hown hb5
      refine hK.out _ _ ⟨(Eff.cell ea hHeld.1 (fun h => by have := HLT; have h : hb = _ := h; omega)), (Eff.cell ea hHeld.2 (fun h => by have := HLT; have h : hb = _ := h; omega))⟩ (fun hHeld => ?_)
      clear hK K
      refine norm_ (a' := ?_) ?_ ?_
      rotate_left
      · show Act.put _ (some 36) _ = _
        simp only [Act.put, List.setIfInBounds_toArray, List.set_cons_zero, List.set_cons_succ, i64_w, i32_w]
        rfl
      refine pure_ (i := 6) (N := some 37) (v := ?_) (a' := ?_) #[true, true, true, true, true, true, true, true, false] rfl rfl (by kernel_rfl) (fun c a w h => HP.out c a _ _ w h) (Or.inl ⟨by rfl, ?_⟩) ?_ ?_
      rotate_left
      · intro w'
        go_simp
        with_reducible rfl
      rotate_left
      · simp only [Act.put, List.setIfInBounds_toArray, List.set_cons_zero, List.set_cons_succ, i64_w, i32_w]
        rfl
      exact norm_ (by simp only [putAll, Act.put, List.setIfInBounds_toArray, List.set_cons_zero, List.set_cons_succ]) (hCont (wr.heap.size + 1, g, c1, wr.heap.size) _ ⟨ZB5.out, OB5.out.1, OB5.out.2, Nat.le_refl _, hHeld⟩)
  rintro ⟨b2, g, c1, ub⟩ w1 ⟨z1, z2, z3, z4, hHeld⟩
  have XX := Lib.hid (And.intro z1 (And.intro z2 (And.intro z3 z4)))
  clear z1 z2 z3 z4
  refine norm_ (a' := ?_) ?_ ?_
  rotate_left
  · simp only [putAll, Act.put, List.setIfInBounds_toArray, List.set_cons_zero, List.set_cons_succ]
    rfl
  refine last_ (i := 8) (N := none) #[true, true, true, true, true, true, true, true, true] rfl rfl (by kernel_rfl) (by decide) (fun K hK => ?_)
  refine skip_ (w1 := w1.setCells ub 0 [.int .i64 n, .slice (some ⟨g, 0, none⟩) len c1]) (by rfl) rfl (run_u (run_storeAt_mid _ ub 0 48 #[.int .i64 n, .slice (some ⟨g, 0, none⟩) len c1] (box_there (XX.out.1) rfl) (by kernel_rfl) (by kernel_rfl))) ?_
  refine hK.out _ _ ?_
  clear hK K
  refine done_ (by kernel_rfl) ?_
  exact HQ.out _ _ _ _ (che_set XX.out.2.2.1 XX.out.1 XX.out.2.1 XX.out.2.2.2 n len) _ _ _ _ _ _ _

set_option maxHeartbeats 2000000 in
set_option maxRecDepth 100000 in
theorem che_r7 {ub g len c i : Nat} {cost : Int} {Q : Exit → Act → World → Prop} (hp : ∀ c (a : Act) (i : Nat) (v : Value) w, Q (.panic c) (a.put (some i) v) w → Q (.panic c) a w)
    {u0 u1 u2 u3 u4 u5 u6 u9 u10 u11 u12 u13 u14 u15 u16 u17 u18 u19 u20 u21 u22 u23 u24 u25 u26 u27 u28 u29 u30 u31 u32 u33 u34 u35 u36 u37 u38 u39 u40 u41 u42 u43 u44 u45 u46 u47 u48 u49 u50 u51 u52 u53 u54 u55 u56 u57 u58 u59 u60 u61 u62 u63 u64 u65 u66 u67 u68 u69 u70 u71 u72 u73 u74 u75 u76 u77 u78 u79 u80 u81 u82 u83 u84 u85 u86 u87 u88 u89 u90 u91 u92 u93 u94 u95 u96 u97 u98 u99 u100 u101 u102 u103 u104 u105 u106 u107 u108 u109 u110 u111 u112 u113 u114 u115 u116 : Value} {wr : World} (hlz : (i : Int) < (len : Int)) (hw : IntKind.i64.wrap (Int.tdiv cost 2) = Int.tdiv cost 2) (U1 : wr.cell? ⟨ub, 1, none⟩ = some (.slice (some ⟨g, 0, none⟩) len c)) (G1 : wr.cell? ⟨g, i * 5 + 2, none⟩ = some (.int .i64 cost)) (FZ : Hid (wr.frozen? ⟨g, i * 5 + 2, none⟩ = false))
    (hQ : ∀ (t38 t39 t40 t41 t42 t43 t44 t45 t46 t47 t48 t49 : Value), Q .normal { tmps := #[u0, u1, u2, u3, u4, u5, u6, .int .i64 i, .pointer (some ⟨ub, 0, none⟩), u9, u10, u11, u12, u13, u14, u15, u16, u17, u18, u19, u20, u21, u22, u23, u24, u25, u26, u27, u28, u29, u30, u31, u32, u33, u34, u35, u36, u37, t38, t39, t40, t41, t42, t43, t44, t45, t46, t47, t48, t49, u50, u51, u52, u53, u54, u55, u56, u57, u58, u59, u60, u61, u62, u63, u64, u65, u66, u67, u68, u69, u70, u71, u72, u73, u74, u75, u76, u77, u78, u79, u80, u81, u82, u83, u84, u85, u86, u87, u88, u89, u90, u91, u92, u93, u94, u95, u96, u97, u98, u99, u100, u101, u102, u103, u104, u105, u106, u107, u108, u109, u110, u111, u112, u113, u114, u115, u116], defers := [] } (wr.drew.setCell ⟨g, i * 5 + 2, none⟩ (.int .i64 (Int.tdiv cost 2)))) :
    Code.wp Try.prog (reg (Try.f10) 7) Q { tmps := #[u0, u1, u2, u3, u4, u5, u6, .int .i64 i, .pointer (some ⟨ub, 0, none⟩), u9, u10, u11, u12, u13, u14, u15, u16, u17, u18, u19, u20, u21, u22, u23, u24, u25, u26, u27, u28, u29, u30, u31, u32, u33, u34, u35, u36, u37, u38, u39, u40, u41, u42, u43, u44, u45, u46, u47, u48, u49, u50, u51, u52, u53, u54, u55, u56, u57, u58, u59, u60, u61, u62, u63, u64, u65, u66, u67, u68, u69, u70, u71, u72, u73, u74, u75, u76, u77, u78, u79, u80, u81, u82, u83, u84, u85, u86, u87, u88, u89, u90, u91, u92, u93, u94, u95, u96, u97, u98, u99, u100, u101, u102, u103, u104, u105, u106, u107, u108, u109, u110, u111, u112, u113, u114, u115, u116], defers := [] } wr := by
  have HQ := Lib.hid hQ
  have HP := Lib.hid hp
  clear hQ hp
  refine start_ (n := 13) (S := fun w' => w'.cell? ⟨ub, 1, none⟩ = some (.slice (some ⟨g, 0, none⟩) len c) ∧ w'.cell? ⟨g, i * 5 + 2, none⟩ = some (.int .i64 cost)) (ds := [12]) #[false, false, false, false, false, false, false, false, false, false, false, false, false] (by kernel_rfl) rfl rfl ⟨U1, G1⟩ (fun hHeld => ?_)
  refine pure_ (i := 0) (N := some 38) (v := ?_) (a' := ?_) #[true, false, false, false, false, false, false, false, false, false, false, false, false] rfl rfl (by kernel_rfl) (fun c a w h => HP.out c a _ _ w h) (Or.inl ⟨by rfl, ?_⟩) ?_ ?_
  rotate_left
  · intro w'
    go_simp
    with_reducible rfl
  rotate_left
  · simp only [Act.put, List.setIfInBounds_toArray, List.set_cons_zero, List.set_cons_succ, i64_w, i32_w]
    rfl
  refine pure_ (i := 2) (N := some 40) (v := ?_) (a' := ?_) #[true, false, true, false, false, false, false, false, false, false, false, false, false] rfl rfl (by kernel_rfl) (fun c a w h => HP.out c a _ _ w h) (Or.inl ⟨by rfl, ?_⟩) ?_ ?_
  rotate_left
  · intro w'
    go_simp
    with_reducible rfl
  rotate_left
  · simp only [Act.put, List.setIfInBounds_toArray, List.set_cons_zero, List.set_cons_succ, i64_w, i32_w]
    rfl
  refine pure_ (i := 3) (N := some 41) (v := ?_) (a' := ?_) #[true, false, true, true, false, false, false, false, false, false, false, false, false] rfl rfl (by kernel_rfl) (fun c a w h => HP.out c a _ _ w h) (Or.inl ⟨by rfl, ?_⟩) ?_ ?_
  rotate_left
  · intro w'
    go_simp
    with_reducible rfl
  rotate_left
  · simp only [Act.put, List.setIfInBounds_toArray, List.set_cons_zero, List.set_cons_succ, i64_w, i32_w]
    rfl
  refine pure_ (i := 5) (N := some 43) (v := ?_) (a' := ?_) #[true, false, true, true, false, true, false, false, false, false, false, false, false] rfl rfl (by kernel_rfl) (fun c a w h => HP.out c a _ _ w h) (Or.inl ⟨by rfl, ?_⟩) ?_ ?_
  rotate_left
  · intro w'
    go_simp
    with_reducible rfl
  rotate_left
  · simp only [Act.put, List.setIfInBounds_toArray, List.set_cons_zero, List.set_cons_succ, i64_w, i32_w]
    rfl
  refine take_ (i := 1) (N := some 39) (v := ?_) (a' := ?_) #[true, true, true, true, false, true, false, false, false, false, false, false, false] rfl rfl (by kernel_rfl) (fun c a w h => HP.out c a _ _ w h) (Or.inl ⟨by rfl, ?_⟩) hHeld ?_ ?_
  rotate_left
  · rintro w' ⟨s0, s1⟩
    go_simp
    with_reducible rfl
  rotate_left
  · simp only [Act.put, List.setIfInBounds_toArray, List.set_cons_zero, List.set_cons_succ, i64_w, i32_w]
    rfl
  refine take_ (i := 4) (N := some 42) (v := ?_) (a' := ?_) #[true, true, true, true, true, true, false, false, false, false, false, false, false] rfl rfl (by kernel_rfl) (fun c a w h => HP.out c a _ _ w h) (Or.inl ⟨by rfl, ?_⟩) hHeld ?_ ?_
  rotate_left
  · rintro w' ⟨s0, s1⟩
    go_simp
    with_reducible rfl
  rotate_left
  · simp only [Act.put, List.setIfInBounds_toArray, List.set_cons_zero, List.set_cons_succ, i64_w, i32_w]
    rfl
  refine pure_ (i := 6) (N := some 44) (v := ?_) (a' := ?_) #[true, true, true, true, true, true, true, false, false, false, false, false, false] rfl rfl (by kernel_rfl) (fun c a w h => HP.out c a _ _ w h) (Or.inl ⟨by rfl, ?_⟩) ?_ ?_
  rotate_left
  · intro w'
    go_simp
    with_reducible rfl
  rotate_left
  · simp only [Act.put, List.setIfInBounds_toArray, List.set_cons_zero, List.set_cons_succ, i64_w, i32_w]
    rfl
  refine pure_ (i := 7) (N := some 45) (v := ?_) (a' := ?_) #[true, true, true, true, true, true, true, true, false, false, false, false, false] rfl rfl (by kernel_rfl) (fun c a w h => HP.out c a _ _ w h) (Or.inl ⟨by rfl, ?_⟩) ?_ ?_
  rotate_left
  · intro w'
    go_simp
    with_reducible rfl
  rotate_left
  · simp only [Act.put, List.setIfInBounds_toArray, List.set_cons_zero, List.set_cons_succ, i64_w, i32_w]
    rfl
  refine take_ (i := 8) (N := some 46) (v := ?_) (a' := ?_) #[true, true, true, true, true, true, true, true, true, false, false, false, false] rfl rfl (by kernel_rfl) (fun c a w h => HP.out c a _ _ w h) (Or.inl ⟨by rfl, ?_⟩) hHeld ?_ ?_
  rotate_left
  · rintro w' ⟨s0, s1⟩
    go_simp
    with_reducible rfl
  rotate_left
  · simp only [Act.put, List.setIfInBounds_toArray, List.set_cons_zero, List.set_cons_succ, i64_w, i32_w]
    rfl
  refine pure_ (i := 9) (N := some 47) (v := ?_) (a' := ?_) #[true, true, true, true, true, true, true, true, true, true, false, false, false] rfl rfl (by kernel_rfl) (fun c a w h => HP.out c a _ _ w h) (Or.inl ⟨by rfl, ?_⟩) ?_ ?_
  rotate_left
  · intro w'
    go_simp
    with_reducible rfl
  rotate_left
  · simp only [Act.put, List.setIfInBounds_toArray, List.set_cons_zero, List.set_cons_succ, i64_w, i32_w]
    rfl
  refine pure_ (i := 10) (N := some 48) (v := ?_) (a' := ?_) #[true, true, true, true, true, true, true, true, true, true, true, false, false] rfl rfl (by kernel_rfl) (fun c a w h => HP.out c a _ _ w h) (Or.inl ⟨by rfl, ?_⟩) ?_ ?_
  rotate_left
  · intro w'
    go_simp
    with_reducible rfl
  rotate_left
  · simp only [Act.put, List.setIfInBounds_toArray, List.set_cons_zero, List.set_cons_succ, i64_w, i32_w]
    rfl
  refine pure_ (i := 11) (N := some 49) (v := ?_) (a' := ?_) #[true, true, true, true, true, true, true, true, true, true, true, true, false] rfl rfl (by kernel_rfl) (fun c a w h => HP.out c a _ _ w h) (Or.inl ⟨by rfl, ?_⟩) ?_ ?_
  rotate_left
  · intro w'
    go_simp
    with_reducible rfl
  rotate_left
  · simp only [Act.put, List.setIfInBounds_toArray, List.set_cons_zero, List.set_cons_succ, i64_w, i32_w]
    rfl
  refine last_ (i := 12) (N := none) #[true, true, true, true, true, true, true, true, true, true, true, true, true] rfl rfl (by kernel_rfl) (by decide) (fun K hK => ?_)
  refine skip_ (w1 := wr.drew.setCell ⟨g, i * 5 + 2, none⟩ (.int .i64 (Int.tdiv cost 2))) (by rfl) rfl (run_u (run_storeAt_one (w := wr.drew) (by kernel_rfl) rfl (o := .int .i64 cost) hHeld.2 FZ.out)) ?_
  refine hK.out _ _ ?_
  clear hK K
  refine done_ (by kernel_rfl) ?_
  exact HQ.out _ _ _ _ _ _ _ _ _ _ _ _

set_option maxHeartbeats 2000000 in
set_option maxRecDepth 100000 in
theorem che_r10 {hb ub eb eo g len cap c1 mA : Nat} {n root : Int} {QA QB : (Nat → Value) → Prop} {Q : Exit → Act → World → Prop} (hp : ∀ c (a : Act) (i : Nat) (v : Value) w, Q (.panic c) (a.put (some i) v) w → Q (.panic c) a w)
    {u0 u2 u4 u5 u6 u7 u9 u10 u11 u12 u13 u14 u15 u16 u17 u18 u19 u20 u21 u22 u23 u24 u25 u26 u27 u28 u29 u30 u31 u32 u33 u34 u35 u36 u37 u38 u39 u40 u41 u42 u43 u44 u45 u46 u47 u48 u49 u50 u51 u52 u53 u54 u55 u56 u57 u58 u59 u60 u61 u62 u63 u64 u65 u66 u67 u68 u69 u70 u71 u72 u73 u74 u75 u76 u77 u78 u79 u80 u81 u82 u83 u84 u85 u86 u87 u88 u89 u90 u91 u92 u93 u94 u95 u96 u97 u98 u99 u100 u101 u102 u103 u104 u105 u106 u107 u108 u109 u110 u111 u112 u113 u114 u115 u116 : Value} {wr : World} (HR : wr.rangeAt hb 0 [.int .i64 n, .slice (some ⟨eb, eo, none⟩) len cap]) (UR : wr.rangeAt ub 0 [.int .i64 n, .slice (some ⟨g, 0, none⟩) len c1]) (C5 : Hid (∀ W : World, Below wr.heap.size wr W → Calls Try.prog 40 #[.agg #[.int .i64 n, .slice (some ⟨eb, eo, none⟩) len cap], .int .i64 root] W (SPost 3 mA QA W))) (C6 : Hid (∀ W : World, Below wr.heap.size wr W → Calls Try.prog 40 #[.agg #[.int .i64 n, .slice (some ⟨g, 0, none⟩) len c1], .int .i64 root] W (SPost 3 mA QB W)))
    (hQ : ∀ (b5 b6 : Nat) (g5 g6 : Nat → Value) (w8 : World), (QA g5 ∧ w8.rowIs b5 3 mA g5) ∧ QB g6 ∧ w8.rowIs b6 3 mA g6 → Below wr.heap.size wr w8 → ∀ (t53 t54 t55 t56 t57 t58 : Value), Q .normal { tmps := #[u0, .int .i64 root, u2, .pointer (some ⟨hb, 0, none⟩), u4, u5, u6, u7, .pointer (some ⟨ub, 0, none⟩), .slice (some ⟨b5, 0, none⟩) mA mA, .slice (some ⟨b6, 0, none⟩) mA mA, u11, u12, u13, u14, u15, u16, u17, u18, u19, u20, u21, u22, u23, u24, u25, u26, u27, u28, u29, u30, u31, u32, u33, u34, u35, u36, u37, u38, u39, u40, u41, u42, u43, u44, u45, u46, u47, u48, u49, u50, u51, u52, t53, t54, t55, t56, t57, t58, u59, u60, u61, u62, u63, u64, u65, u66, u67, u68, u69, u70, u71, u72, u73, u74, u75, u76, u77, u78, u79, u80, u81, u82, u83, u84, u85, u86, u87, u88, u89, u90, u91, u92, u93, u94, u95, u96, u97, u98, u99, u100, u101, u102, u103, u104, u105, u106, u107, u108, u109, u110, u111, u112, u113, u114, u115, u116], defers := [] } (w8)) :
    Code.wp Try.prog (reg (Try.f10) 10) Q { tmps := #[u0, .int .i64 root, u2, .pointer (some ⟨hb, 0, none⟩), u4, u5, u6, u7, .pointer (some ⟨ub, 0, none⟩), u9, u10, u11, u12, u13, u14, u15, u16, u17, u18, u19, u20, u21, u22, u23, u24, u25, u26, u27, u28, u29, u30, u31, u32, u33, u34, u35, u36, u37, u38, u39, u40, u41, u42, u43, u44, u45, u46, u47, u48, u49, u50, u51, u52, u53, u54, u55, u56, u57, u58, u59, u60, u61, u62, u63, u64, u65, u66, u67, u68, u69, u70, u71, u72, u73, u74, u75, u76, u77, u78, u79, u80, u81, u82, u83, u84, u85, u86, u87, u88, u89, u90, u91, u92, u93, u94, u95, u96, u97, u98, u99, u100, u101, u102, u103, u104, u105, u106, u107, u108, u109, u110, u111, u112, u113, u114, u115, u116], defers := [] } wr := by
  have HQ := Lib.hid hQ
  have HP := Lib.hid hp
  clear hQ hp
  refine start_ (n := 8) (S := fun w' => w'.rangeAt hb 0 [.int .i64 n, .slice (some ⟨eb, eo, none⟩) len cap] ∧ w'.rangeAt ub 0 [.int .i64 n, .slice (some ⟨g, 0, none⟩) len c1]) (ds := []) #[false, false, false, false, false, false, false, false] (by kernel_rfl) rfl rfl ⟨HR, UR⟩ (fun hHeld => ?_)
  refine pure_ (i := 1) (N := some 54) (v := ?_) (a' := ?_) #[false, true, false, false, false, false, false, false] rfl rfl (by kernel_rfl) (fun c a w h => HP.out c a _ _ w h) (Or.inl ⟨by rfl, ?_⟩) ?_ ?_
  rotate_left
  · intro w'
    go_simp
    with_reducible rfl
  rotate_left
  · simp only [Act.put, List.setIfInBounds_toArray, List.set_cons_zero, List.set_cons_succ, i64_w, i32_w]
    rfl
  refine pure_ (i := 4) (N := some 57) (v := ?_) (a' := ?_) #[false, true, false, false, true, false, false, false] rfl rfl (by kernel_rfl) (fun c a w h => HP.out c a _ _ w h) (Or.inl ⟨by rfl, ?_⟩) ?_ ?_
  rotate_left
  · intro w'
    go_simp
    with_reducible rfl
  rotate_left
  · simp only [Act.put, List.setIfInBounds_toArray, List.set_cons_zero, List.set_cons_succ, i64_w, i32_w]
    rfl
  refine take_ (i := 0) (N := some 53) (a' := ?_) #[true, true, false, false, true, false, false, false] rfl rfl (by kernel_rfl) (fun c a w h => HP.out c a _ _ w h) (yieldsIf_load_mid (by rfl) 48 _ rfl hb 0 (by rfl) [.int .i64 n, .slice (some ⟨eb, eo, none⟩) len cap] _ (fun w' h => h.1) Try.underlying48 rfl (by kernel_rfl)) hHeld ?_ ?_
  rotate_left
  · simp only [Act.put, List.setIfInBounds_toArray, List.set_cons_zero, List.set_cons_succ, i64_w, i32_w]
    rfl
  refine take_ (i := 3) (N := some 56) (a' := ?_) #[true, true, false, true, true, false, false, false] rfl rfl (by kernel_rfl) (fun c a w h => HP.out c a _ _ w h) (yieldsIf_load_mid (by rfl) 48 _ rfl ub 0 (by rfl) [.int .i64 n, .slice (some ⟨g, 0, none⟩) len c1] _ (fun w' h => h.2) Try.underlying48 rfl (by kernel_rfl)) hHeld ?_ ?_
  rotate_left
  · simp only [Act.put, List.setIfInBounds_toArray, List.set_cons_zero, List.set_cons_succ, i64_w, i32_w]
    rfl
  refine one_ (i := 2) (N := some 55) #[true, true, true, true, true, false, false, false] rfl rfl (by kernel_rfl) (by decide) (fun K hK => ?_)
  refine goesV_ Try.func40 (by kernel_rfl) rfl #[.agg #[.int .i64 n, .slice (some ⟨eb, eo, none⟩) len cap], .int .i64 root] (by rfl) rfl rfl (by rfl) (by simp only [List.map_toArray, List.map_cons, List.map_nil]; rfl) ?_
  with_reducible refine (C5.out _ (Below.refl wr.heap.size wr).drew).mono ?_
  rintro r w5 ⟨b5, g5, rfl, hq5, hr5, bb5⟩
  have BB5 : Hid (Below wr.heap.size wr w5) := (Below.refl _ _).drew.trans bb5
  have e5 := Eff.of_below bb5 (fun _ => False)
  have HR5 := Lib.hid (And.intro hq5 hr5)
  clear bb5 hq5 hr5
  refine ⟨_, rfl, ?_⟩
  refine hK.out _ _ ⟨(rangeAt_eff hHeld.1 e5 (fun h => h)), (rangeAt_eff hHeld.2 e5 (fun h => h))⟩ (fun hHeld => ?_)
  clear hK K
  refine norm_ (a' := ?_) ?_ ?_
  rotate_left
  · show Act.put _ (some 55) _ = _
    simp only [Act.put, List.setIfInBounds_toArray, List.set_cons_zero, List.set_cons_succ, i64_w, i32_w]
    rfl
  refine one_ (i := 5) (N := some 58) #[true, true, true, true, true, true, false, false] rfl rfl (by kernel_rfl) (by decide) (fun K hK => ?_)
  refine goesV_ Try.func40 (by kernel_rfl) rfl #[.agg #[.int .i64 n, .slice (some ⟨g, 0, none⟩) len c1], .int .i64 root] (by rfl) rfl rfl (by rfl) (by simp only [List.map_toArray, List.map_cons, List.map_nil]; rfl) ?_
  with_reducible refine (C6.out _ BB5.out).mono ?_
  rintro r w6 ⟨b6, g6, rfl, hq6, hr6, bb6⟩
  have BB6 : Hid (Below wr.heap.size wr w6) := BB5.out.trans (bb6.mono BB5.out.size)
  have e6 := Eff.of_below bb6 (fun _ => False)
  have HR6 := Lib.hid (And.intro (And.intro HR5.out.1 (row_below HR5.out.2 bb6)) (And.intro hq6 hr6))
  clear bb6 hq6 hr6
  refine ⟨_, rfl, ?_⟩
  refine hK.out _ _ ⟨(rangeAt_eff hHeld.1 e6 (fun h => h)), (rangeAt_eff hHeld.2 e6 (fun h => h))⟩ (fun hHeld => ?_)
  clear hK K
  refine norm_ (a' := ?_) ?_ ?_
  rotate_left
  · show Act.put _ (some 58) _ = _
    simp only [Act.put, List.setIfInBounds_toArray, List.set_cons_zero, List.set_cons_succ, i64_w, i32_w]
    rfl
  refine pure_ (i := 6) (N := some 9) (v := ?_) (a' := ?_) #[true, true, true, true, true, true, true, false] rfl rfl (by kernel_rfl) (fun c a w h => HP.out c a _ _ w h) (Or.inl ⟨by rfl, ?_⟩) ?_ ?_
  rotate_left
  · intro w'
    go_simp
    with_reducible rfl
  rotate_left
  · simp only [Act.put, List.setIfInBounds_toArray, List.set_cons_zero, List.set_cons_succ, i64_w, i32_w]
    rfl
  refine pure_ (i := 7) (N := some 10) (v := ?_) (a' := ?_) #[true, true, true, true, true, true, true, true] rfl rfl (by kernel_rfl) (fun c a w h => HP.out c a _ _ w h) (Or.inl ⟨by rfl, ?_⟩) ?_ ?_
  rotate_left
  · intro w'
    go_simp
    with_reducible rfl
  rotate_left
  · simp only [Act.put, List.setIfInBounds_toArray, List.set_cons_zero, List.set_cons_succ, i64_w, i32_w]
    rfl
  refine done_ (by kernel_rfl) ?_
  exact HQ.out _ _ _ _ _ HR6.out BB6.out _ _ _ _ _ _

set_option maxHeartbeats 2000000 in
set_option maxRecDepth 100000 in
theorem che_r11 {hb ub eb eo g len cap c1 mA : Nat} {n root : Int} {QA QB : (Nat → Value) → Prop} {Q : Exit → Act → World → Prop} (hp : ∀ c (a : Act) (i : Nat) (v : Value) w, Q (.panic c) (a.put (some i) v) w → Q (.panic c) a w)
    {u0 u2 u4 u5 u6 u7 u9 u10 u11 u12 u13 u14 u15 u16 u17 u18 u19 u20 u21 u22 u23 u24 u25 u26 u27 u28 u29 u30 u31 u32 u33 u34 u35 u36 u37 u38 u39 u40 u41 u42 u43 u44 u45 u46 u47 u48 u49 u50 u51 u52 u53 u54 u55 u56 u57 u58 u59 u60 u61 u62 u63 u64 u65 u66 u67 u68 u69 u70 u71 u72 u73 u74 u75 u76 u77 u78 u79 u80 u81 u82 u83 u84 u85 u86 u87 u88 u89 u90 u91 u92 u93 u94 u95 u96 u97 u98 u99 u100 u101 u102 u103 u104 u105 u106 u107 u108 u109 u110 u111 u112 u113 u114 u115 u116 : Value} {wr : World} (HR : wr.rangeAt hb 0 [.int .i64 n, .slice (some ⟨eb, eo, none⟩) len cap]) (UR : wr.rangeAt ub 0 [.int .i64 n, .slice (some ⟨g, 0, none⟩) len c1]) (C5 : Hid (∀ W : World, Below wr.heap.size wr W → Calls Try.prog 45 #[.agg #[.int .i64 n, .slice (some ⟨eb, eo, none⟩) len cap], .int .i64 root] W (SPost 3 mA QA W))) (C6 : Hid (∀ W : World, Below wr.heap.size wr W → Calls Try.prog 45 #[.agg #[.int .i64 n, .slice (some ⟨g, 0, none⟩) len c1], .int .i64 root] W (SPost 3 mA QB W)))
    (hQ : ∀ (b5 b6 : Nat) (g5 g6 : Nat → Value) (w8 : World), (QA g5 ∧ w8.rowIs b5 3 mA g5) ∧ QB g6 ∧ w8.rowIs b6 3 mA g6 → Below wr.heap.size wr w8 → ∀ (t59 t60 t61 t62 t63 t64 : Value), Q .normal { tmps := #[u0, .int .i64 root, u2, .pointer (some ⟨hb, 0, none⟩), u4, u5, u6, u7, .pointer (some ⟨ub, 0, none⟩), u9, u10, .slice (some ⟨b5, 0, none⟩) mA mA, .slice (some ⟨b6, 0, none⟩) mA mA, u13, u14, u15, u16, u17, u18, u19, u20, u21, u22, u23, u24, u25, u26, u27, u28, u29, u30, u31, u32, u33, u34, u35, u36, u37, u38, u39, u40, u41, u42, u43, u44, u45, u46, u47, u48, u49, u50, u51, u52, u53, u54, u55, u56, u57, u58, t59, t60, t61, t62, t63, t64, u65, u66, u67, u68, u69, u70, u71, u72, u73, u74, u75, u76, u77, u78, u79, u80, u81, u82, u83, u84, u85, u86, u87, u88, u89, u90, u91, u92, u93, u94, u95, u96, u97, u98, u99, u100, u101, u102, u103, u104, u105, u106, u107, u108, u109, u110, u111, u112, u113, u114, u115, u116], defers := [] } (w8)) :
    Code.wp Try.prog (reg (Try.f10) 11) Q { tmps := #[u0, .int .i64 root, u2, .pointer (some ⟨hb, 0, none⟩), u4, u5, u6, u7, .pointer (some ⟨ub, 0, none⟩), u9, u10, u11, u12, u13, u14, u15, u16, u17, u18, u19, u20, u21, u22, u23, u24, u25, u26, u27, u28, u29, u30, u31, u32, u33, u34, u35, u36, u37, u38, u39, u40, u41, u42, u43, u44, u45, u46, u47, u48, u49, u50, u51, u52, u53, u54, u55, u56, u57, u58, u59, u60, u61, u62, u63, u64, u65, u66, u67, u68, u69, u70, u71, u72, u73, u74, u75, u76, u77, u78, u79, u80, u81, u82, u83, u84, u85, u86, u87, u88, u89, u90, u91, u92, u93, u94, u95, u96, u97, u98, u99, u100, u101, u102, u103, u104, u105, u106, u107, u108, u109, u110, u111, u112, u113, u114, u115, u116], defers := [] } wr := by
  have HQ := Lib.hid hQ
  have HP := Lib.hid hp
  clear hQ hp
  refine start_ (n := 8) (S := fun w' => w'.rangeAt hb 0 [.int .i64 n, .slice (some ⟨eb, eo, none⟩) len cap] ∧ w'.rangeAt ub 0 [.int .i64 n, .slice (some ⟨g, 0, none⟩) len c1]) (ds := []) #[false, false, false, false, false, false, false, false] (by kernel_rfl) rfl rfl ⟨HR, UR⟩ (fun hHeld => ?_)
  refine pure_ (i := 1) (N := some 60) (v := ?_) (a' := ?_) #[false, true, false, false, false, false, false, false] rfl rfl (by kernel_rfl) (fun c a w h => HP.out c a _ _ w h) (Or.inl ⟨by rfl, ?_⟩) ?_ ?_
  rotate_left
  · intro w'
    go_simp
    with_reducible rfl
  rotate_left
  · simp only [Act.put, List.setIfInBounds_toArray, List.set_cons_zero, List.set_cons_succ, i64_w, i32_w]
    rfl
  refine pure_ (i := 4) (N := some 63) (v := ?_) (a' := ?_) #[false, true, false, false, true, false, false, false] rfl rfl (by kernel_rfl) (fun c a w h => HP.out c a _ _ w h) (Or.inl ⟨by rfl, ?_⟩) ?_ ?_
  rotate_left
  · intro w'
    go_simp
    with_reducible rfl
  rotate_left
  · simp only [Act.put, List.setIfInBounds_toArray, List.set_cons_zero, List.set_cons_succ, i64_w, i32_w]
    rfl
  refine take_ (i := 0) (N := some 59) (a' := ?_) #[true, true, false, false, true, false, false, false] rfl rfl (by kernel_rfl) (fun c a w h => HP.out c a _ _ w h) (yieldsIf_load_mid (by rfl) 48 _ rfl hb 0 (by rfl) [.int .i64 n, .slice (some ⟨eb, eo, none⟩) len cap] _ (fun w' h => h.1) Try.underlying48 rfl (by kernel_rfl)) hHeld ?_ ?_
  rotate_left
  · simp only [Act.put, List.setIfInBounds_toArray, List.set_cons_zero, List.set_cons_succ, i64_w, i32_w]
    rfl
  refine take_ (i := 3) (N := some 62) (a' := ?_) #[true, true, false, true, true, false, false, false] rfl rfl (by kernel_rfl) (fun c a w h => HP.out c a _ _ w h) (yieldsIf_load_mid (by rfl) 48 _ rfl ub 0 (by rfl) [.int .i64 n, .slice (some ⟨g, 0, none⟩) len c1] _ (fun w' h => h.2) Try.underlying48 rfl (by kernel_rfl)) hHeld ?_ ?_
  rotate_left
  · simp only [Act.put, List.setIfInBounds_toArray, List.set_cons_zero, List.set_cons_succ, i64_w, i32_w]
    rfl
  refine one_ (i := 2) (N := some 61) #[true, true, true, true, true, false, false, false] rfl rfl (by kernel_rfl) (by decide) (fun K hK => ?_)
  refine goesV_ Try.func45 (by kernel_rfl) rfl #[.agg #[.int .i64 n, .slice (some ⟨eb, eo, none⟩) len cap], .int .i64 root] (by rfl) rfl rfl (by rfl) (by simp only [List.map_toArray, List.map_cons, List.map_nil]; rfl) ?_
  with_reducible refine (C5.out _ (Below.refl wr.heap.size wr).drew).mono ?_
  rintro r w5 ⟨b5, g5, rfl, hq5, hr5, bb5⟩
  have BB5 : Hid (Below wr.heap.size wr w5) := (Below.refl _ _).drew.trans bb5
  have e5 := Eff.of_below bb5 (fun _ => False)
  have HR5 := Lib.hid (And.intro hq5 hr5)
  clear bb5 hq5 hr5
  refine ⟨_, rfl, ?_⟩
  refine hK.out _ _ ⟨(rangeAt_eff hHeld.1 e5 (fun h => h)), (rangeAt_eff hHeld.2 e5 (fun h => h))⟩ (fun hHeld => ?_)
  clear hK K
  refine norm_ (a' := ?_) ?_ ?_
  rotate_left
  · show Act.put _ (some 61) _ = _
    simp only [Act.put, List.setIfInBounds_toArray, List.set_cons_zero, List.set_cons_succ, i64_w, i32_w]
    rfl
  refine one_ (i := 5) (N := some 64) #[true, true, true, true, true, true, false, false] rfl rfl (by kernel_rfl) (by decide) (fun K hK => ?_)
  refine goesV_ Try.func45 (by kernel_rfl) rfl #[.agg #[.int .i64 n, .slice (some ⟨g, 0, none⟩) len c1], .int .i64 root] (by rfl) rfl rfl (by rfl) (by simp only [List.map_toArray, List.map_cons, List.map_nil]; rfl) ?_
  with_reducible refine (C6.out _ BB5.out).mono ?_
  rintro r w6 ⟨b6, g6, rfl, hq6, hr6, bb6⟩
  have BB6 : Hid (Below wr.heap.size wr w6) := BB5.out.trans (bb6.mono BB5.out.size)
  have e6 := Eff.of_below bb6 (fun _ => False)
  have HR6 := Lib.hid (And.intro (And.intro HR5.out.1 (row_below HR5.out.2 bb6)) (And.intro hq6 hr6))
  clear bb6 hq6 hr6
  refine ⟨_, rfl, ?_⟩
  refine hK.out _ _ ⟨(rangeAt_eff hHeld.1 e6 (fun h => h)), (rangeAt_eff hHeld.2 e6 (fun h => h))⟩ (fun hHeld => ?_)
  clear hK K
  refine norm_ (a' := ?_) ?_ ?_
  rotate_left
  · show Act.put _ (some 64) _ = _
    simp only [Act.put, List.setIfInBounds_toArray, List.set_cons_zero, List.set_cons_succ, i64_w, i32_w]
    rfl
  refine pure_ (i := 6) (N := some 11) (v := ?_) (a' := ?_) #[true, true, true, true, true, true, true, false] rfl rfl (by kernel_rfl) (fun c a w h => HP.out c a _ _ w h) (Or.inl ⟨by rfl, ?_⟩) ?_ ?_
  rotate_left
  · intro w'
    go_simp
    with_reducible rfl
  rotate_left
  · simp only [Act.put, List.setIfInBounds_toArray, List.set_cons_zero, List.set_cons_succ, i64_w, i32_w]
    rfl
  refine pure_ (i := 7) (N := some 12) (v := ?_) (a' := ?_) #[true, true, true, true, true, true, true, true] rfl rfl (by kernel_rfl) (fun c a w h => HP.out c a _ _ w h) (Or.inl ⟨by rfl, ?_⟩) ?_ ?_
  rotate_left
  · intro w'
    go_simp
    with_reducible rfl
  rotate_left
  · simp only [Act.put, List.setIfInBounds_toArray, List.set_cons_zero, List.set_cons_succ, i64_w, i32_w]
    rfl
  refine done_ (by kernel_rfl) ?_
  exact HQ.out _ _ _ _ _ HR6.out BB6.out _ _ _ _ _ _
end Go.Proofs.Ytepfbhigeghjjaa.Q
