/- OutsideMatchesReference: the walk. -/
import Derived.Test.YtepfbhigeghjjaaO33y
import Derived.Test.YtepfbhigeghjjaaO33z
namespace Go.Proofs.Ytepfbhigeghjjaa.Q
open Go.RowKit Go.Proofs.YtepfbhigeghjjaaW.PrintLast
set_option linter.unusedVariables false
set_option linter.unusedSimpArgs false

/-- Two rows of the same costs are told the same. -/
theorem rowQ_same {E : List K.Ed} {n m : Nat} {root : Int} {F : (Nat → Int) → (Nat → Int) → Nat → Int} (hE : ∀ e ∈ E, K.OkE n e) (hF : ∀ (inn inn' out out' : Nat → Int), (∀ i, i < n → inn i = inn' i) → (∀ i, i < n → out i = out' i) → ∀ i, i < m → F inn out i = F inn' out' i) {g g' : Nat → Value} (h : RowQ E n root F g) (h' : RowQ E n root F g') : ∀ i, i < m → g i = g' i := by
  obtain ⟨v, f, out, h1, h2, rfl⟩ := h
  obtain ⟨v', f', out', k1, k2, rfl⟩ := h'
  have hv : ∀ i, i < n → (v i).1 = (v' i).1 := fun i hi => by rw [(h1.unique hE k1 i hi).1]
  have ho : ∀ i, i < n → out i = out' i := by
    intro i hi
    by_cases hr : 0 ≤ root ∧ root < n
    · exact ((h2.1 hr).congr hE (inn' := fun i => (v' i).1) hv).unique (k2.1 hr) i hi
    · rw [h2.2 hr i hi, k2.2 hr i hi]
  intro i hi
  show Value.int .i64 _ = Value.int .i64 _
  rw [hF _ _ _ _ hv ho i hi]
theorem fOut_congr {n : Nat} (inn inn' out out' : Nat → Int) (h1 : ∀ i, i < n → inn i = inn' i) (h2 : ∀ i, i < n → out i = out' i) : ∀ i, i < n → fOut inn out i = fOut inn' out' i := h2
theorem fThr_congr {n : Nat} (inn inn' out out' : Nat → Int) (h1 : ∀ i, i < n → inn i = inn' i) (h2 : ∀ i, i < n → out i = out' i) : ∀ i, i < n → fThr inn out i = fThr inn' out' i := fun i hi => by unfold fThr; rw [h1 i hi, h2 i hi]
theorem fEdge_congr {E : List K.Ed} {n : Nat} (hE : ∀ e ∈ E, K.OkE n e) (inn inn' out out' : Nat → Int) (h1 : ∀ i, i < n → inn i = inn' i) (h2 : ∀ i, i < n → out i = out' i) : ∀ i, i < E.length → fEdge E inn out i = fEdge E inn' out' i := fun i hi => by
  have he : E[i]? = some E[i] := List.getElem?_eq_getElem hi
  unfold fEdge
  rw [he]
  have hk := hE _ (List.getElem_mem hi)
  show min (out _ + _ + K.oth inn _ 0 (-1)) _ = min (out' _ + _ + K.oth inn' _ 0 (-1)) _
  rw [h2 _ hk.1, K.oth_congr (-1) _ 0 (fun t ht => h1 t (hk.2.1 t ht))]
theorem same_rows {E : List K.Ed} {n m : Nat} {root : Int} {F : (Nat → Int) → (Nat → Int) → Nat → Int} (hE : ∀ e ∈ E, K.OkE n e) (hF : ∀ (inn inn' out out' : Nat → Int), (∀ i, i < n → inn i = inn' i) → (∀ i, i < n → out i = out' i) → ∀ i, i < m → F inn out i = F inn' out' i) (hm : m ≤ 1000) (W : World) (b5 b6 : Nat) (g5 g6 : Nat → Value) (h : RowQ E n root F g5) (h' : RowQ E n root F g6) (r5 : W.rowIs b5 3 m g5) (r6 : W.rowIs b6 3 m g6) :
    Calls Try.prog 53 #[.slice (some ⟨b5, 0, none⟩) m m, .slice (some ⟨b6, 0, none⟩) m m] W fun r w' => r = .returned (.bool true) ∧ Below W.heap.size W w' := by
  have hs := rowQ_same hE hF h h'
  obtain ⟨v, f, out, h1, h2, rfl⟩ := h
  exact same_ints (f := F (fun i => (v i).1) out) r5 (r6.congr (fun i hi => (hs i hi).symm)) hm

set_option maxHeartbeats 2000000 in
set_option maxRecDepth 100000 in
theorem m20_r3 {hb len cap mA : Nat} {n root : Int} {A : Option Addr} {QA : (Nat → Value) → Prop} {PP : Prop} {Q : Exit → Act → World → Prop} (hp : ∀ c (a : Act) (i : Nat) (v : Value) w, Q (.panic c) (a.put (some i) v) w → Q (.panic c) a w)
    {u0 u3 u4 u5 u6 u7 u8 u9 u10 u11 u12 u13 u14 u15 u16 u17 u18 : Value} {wr : World} (HR : wr.rangeAt hb 0 [.int .i64 n, .slice A len cap]) (C39 : Hid (Calls Try.prog 39 #[.agg #[.int .i64 n, .slice A len cap]] wr.drew (YesPost wr.drew PP))) (C5 : Hid (PP → ∀ W : World, Below wr.heap.size wr W → Calls Try.prog 40 #[.agg #[.int .i64 n, .slice A len cap], .int .i64 root] W (SPost 3 mA QA W))) (C6 : Hid (PP → ∀ W : World, Below wr.heap.size wr W → Calls Try.prog 57 #[.agg #[.int .i64 n, .slice A len cap], .int .i64 root] W (SPost 3 mA QA W))) (C7 : Hid (PP → ∀ (W : World) (b5 b6 : Nat) (g5 g6 : Nat → Value), Below wr.heap.size wr W → QA g5 → QA g6 → W.rowIs b5 3 mA g5 → W.rowIs b6 3 mA g6 → Calls Try.prog 53 #[.slice (some ⟨b5, 0, none⟩) mA mA, .slice (some ⟨b6, 0, none⟩) mA mA] W fun r w' => r = .returned (.bool true) ∧ Below W.heap.size W w'))
    (hQ : ∀ (w8 : World), Below wr.heap.size wr w8 → ∀ (t7 t8 t9 t10 t11 t12 t13 t14 t15 t16 t17 t18 : Value), Q .normal { tmps := #[u0, .int .i64 root, .pointer (some ⟨hb, 0, none⟩), u3, .bool true, u5, u6, t7, t8, t9, t10, t11, t12, t13, t14, t15, t16, t17, t18], defers := [] } (w8)) :
    Code.wp Try.prog (reg (Try.f20) 3) Q { tmps := #[u0, .int .i64 root, .pointer (some ⟨hb, 0, none⟩), u3, u4, u5, u6, u7, u8, u9, u10, u11, u12, u13, u14, u15, u16, u17, u18], defers := [] } wr := by
  have HQ := Lib.hid hQ
  have HP := Lib.hid hp
  clear hQ hp
  refine start_ (n := 13) (S := fun w' => w'.rangeAt hb 0 [.int .i64 n, .slice A len cap]) (ds := []) #[false, false, false, false, false, false, false, false, false, false, false, false, false] (by kernel_rfl) rfl rfl HR (fun hHeld => ?_)
  refine take_ (i := 0) (N := some 7) (a' := ?_) #[true, false, false, false, false, false, false, false, false, false, false, false, false] rfl rfl (by kernel_rfl) (fun c a w h => HP.out c a _ _ w h) (yieldsIf_load_mid (by rfl) 48 _ rfl hb 0 (by rfl) [.int .i64 n, .slice A len cap] _ (fun w' h => h) Try.underlying48 rfl (by kernel_rfl)) hHeld ?_ ?_
  rotate_left
  · simp only [Act.put, List.setIfInBounds_toArray, List.set_cons_zero, List.set_cons_succ, i64_w, i32_w]
    rfl
  refine one_ (i := 1) (N := some 8) #[true, true, false, false, false, false, false, false, false, false, false, false, false] rfl rfl (by kernel_rfl) (by decide) (fun K hK => ?_)
  refine goesV_ Try.func39 (by kernel_rfl) rfl #[.agg #[.int .i64 n, .slice A len cap]] (by rfl) rfl rfl (by rfl) (by simp only [List.map_toArray, List.map_cons, List.map_nil]; rfl) ?_
  with_reducible refine (C39.out).mono ?_
  rintro r w4 ⟨b, rfl, hp4, bb4⟩
  have BB4 : Hid (Below wr.heap.size wr w4) := (Below.refl _ _).drew.trans bb4
  have HP4 := Lib.hid hp4
  have e4 := Eff.of_below bb4 (fun _ => False)
  clear bb4 hp4
  refine ⟨_, rfl, ?_⟩
  refine hK.out _ _ (rangeAt_eff hHeld e4 (fun h => h)) (fun hHeld => ?_)
  clear hK K
  refine norm_ (a' := ?_) ?_ ?_
  rotate_left
  · show Act.put _ (some 8) _ = _
    simp only [Act.put, List.setIfInBounds_toArray, List.set_cons_zero, List.set_cons_succ, i64_w, i32_w]
    rfl
  refine pure_ (i := 2) (N := some 9) (v := ?_) (a' := ?_) #[true, true, true, false, false, false, false, false, false, false, false, false, false] rfl rfl (by kernel_rfl) (fun c a w h => HP.out c a _ _ w h) (Or.inl ⟨by rfl, ?_⟩) ?_ ?_
  rotate_left
  · intro w'
    go_simp
    with_reducible rfl
  rotate_left
  · simp only [Act.put, List.setIfInBounds_toArray, List.set_cons_zero, List.set_cons_succ, i64_w, i32_w]
    rfl
  refine pure_ (i := 3) (N := some 10) (v := ?_) (a' := ?_) #[true, true, true, true, false, false, false, false, false, false, false, false, false] rfl rfl (by kernel_rfl) (fun c a w h => HP.out c a _ _ w h) (Or.inl ⟨by rfl, ?_⟩) ?_ ?_
  rotate_left
  · intro w'
    go_simp
    with_reducible rfl
  rotate_left
  · simp only [Act.put, List.setIfInBounds_toArray, List.set_cons_zero, List.set_cons_succ, i64_w, i32_w]
    rfl
  cases b with
  | false =>
    refine pure_ (i := 4) (N := some 11) (v := undef) (a' := ?_) #[true, true, true, true, true, false, false, false, false, false, false, false, false] rfl rfl (by kernel_rfl) (fun c a w h => HP.out c a _ _ w h) (Or.inr ⟨by rfl, rfl⟩) ?_ ?_
    rotate_left
    · simp only [Act.put, List.setIfInBounds_toArray, List.set_cons_zero, List.set_cons_succ, i64_w, i32_w]
      rfl
    refine pure_ (i := 5) (N := some 12) (v := undef) (a' := ?_) #[true, true, true, true, true, true, false, false, false, false, false, false, false] rfl rfl (by kernel_rfl) (fun c a w h => HP.out c a _ _ w h) (Or.inr ⟨by rfl, rfl⟩) ?_ ?_
    rotate_left
    · simp only [Act.put, List.setIfInBounds_toArray, List.set_cons_zero, List.set_cons_succ, i64_w, i32_w]
      rfl
    refine pure_ (i := 6) (N := some 13) (v := undef) (a' := ?_) #[true, true, true, true, true, true, true, false, false, false, false, false, false] rfl rfl (by kernel_rfl) (fun c a w h => HP.out c a _ _ w h) (Or.inr ⟨by rfl, rfl⟩) ?_ ?_
    rotate_left
    · simp only [Act.put, List.setIfInBounds_toArray, List.set_cons_zero, List.set_cons_succ, i64_w, i32_w]
      rfl
    refine pure_ (i := 7) (N := some 14) (v := undef) (a' := ?_) #[true, true, true, true, true, true, true, true, false, false, false, false, false] rfl rfl (by kernel_rfl) (fun c a w h => HP.out c a _ _ w h) (Or.inr ⟨by rfl, rfl⟩) ?_ ?_
    rotate_left
    · simp only [Act.put, List.setIfInBounds_toArray, List.set_cons_zero, List.set_cons_succ, i64_w, i32_w]
      rfl
    refine pure_ (i := 8) (N := some 15) (v := undef) (a' := ?_) #[true, true, true, true, true, true, true, true, true, false, false, false, false] rfl rfl (by kernel_rfl) (fun c a w h => HP.out c a _ _ w h) (Or.inr ⟨by rfl, rfl⟩) ?_ ?_
    rotate_left
    · simp only [Act.put, List.setIfInBounds_toArray, List.set_cons_zero, List.set_cons_succ, i64_w, i32_w]
      rfl
    refine pure_ (i := 9) (N := some 16) (v := undef) (a' := ?_) #[true, true, true, true, true, true, true, true, true, true, false, false, false] rfl rfl (by kernel_rfl) (fun c a w h => HP.out c a _ _ w h) (Or.inr ⟨by rfl, rfl⟩) ?_ ?_
    rotate_left
    · simp only [Act.put, List.setIfInBounds_toArray, List.set_cons_zero, List.set_cons_succ, i64_w, i32_w]
      rfl
    refine pure_ (i := 10) (N := some 17) (v := undef) (a' := ?_) #[true, true, true, true, true, true, true, true, true, true, true, false, false] rfl rfl (by kernel_rfl) (fun c a w h => HP.out c a _ _ w h) (Or.inr ⟨by rfl, rfl⟩) ?_ ?_
    rotate_left
    · simp only [Act.put, List.setIfInBounds_toArray, List.set_cons_zero, List.set_cons_succ, i64_w, i32_w]
      rfl
    refine pure_ (i := 11) (N := some 18) (v := ?_) (a' := ?_) #[true, true, true, true, true, true, true, true, true, true, true, true, false] rfl rfl (by kernel_rfl) (fun c a w h => HP.out c a _ _ w h) (Or.inl ⟨by rfl, ?_⟩) ?_ ?_
    rotate_left
    · intro w'
      go_simp
      with_reducible rfl
    rotate_left
    · simp only [Act.put, List.setIfInBounds_toArray, List.set_cons_zero, List.set_cons_succ, i64_w, i32_w]
      rfl
    refine pure_ (i := 12) (N := some 4) (v := ?_) (a' := ?_) #[true, true, true, true, true, true, true, true, true, true, true, true, true] rfl rfl (by kernel_rfl) (fun c a w h => HP.out c a _ _ w h) (Or.inl ⟨by rfl, ?_⟩) ?_ ?_
    rotate_left
    · intro w'
      go_simp
      with_reducible rfl
    rotate_left
    · simp only [Act.put, List.setIfInBounds_toArray, List.set_cons_zero, List.set_cons_succ, i64_w, i32_w]
      rfl
    refine done_ (by kernel_rfl) ?_
    exact HQ.out _ BB4.out _ _ _ _ _ _ _ _ _ _ _ _
  | true =>
    refine pure_ (i := 5) (N := some 12) (v := ?_) (a' := ?_) #[true, true, true, true, false, true, false, false, false, false, false, false, false] rfl rfl (by kernel_rfl) (fun c a w h => HP.out c a _ _ w h) (Or.inl ⟨by rfl, ?_⟩) ?_ ?_
    rotate_left
    · intro w'
      go_simp
      with_reducible rfl
    rotate_left
    · simp only [Act.put, List.setIfInBounds_toArray, List.set_cons_zero, List.set_cons_succ, i64_w, i32_w]
      rfl
    refine pure_ (i := 8) (N := some 15) (v := ?_) (a' := ?_) #[true, true, true, true, false, true, false, false, true, false, false, false, false] rfl rfl (by kernel_rfl) (fun c a w h => HP.out c a _ _ w h) (Or.inl ⟨by rfl, ?_⟩) ?_ ?_
    rotate_left
    · intro w'
      go_simp
      with_reducible rfl
    rotate_left
    · simp only [Act.put, List.setIfInBounds_toArray, List.set_cons_zero, List.set_cons_succ, i64_w, i32_w]
      rfl
    refine take_ (i := 4) (N := some 11) (a' := ?_) #[true, true, true, true, true, true, false, false, true, false, false, false, false] rfl rfl (by kernel_rfl) (fun c a w h => HP.out c a _ _ w h) (yieldsIf_load_mid (by rfl) 48 _ rfl hb 0 (by rfl) [.int .i64 n, .slice A len cap] _ (fun w' h => h) Try.underlying48 rfl (by kernel_rfl)) hHeld ?_ ?_
    rotate_left
    · simp only [Act.put, List.setIfInBounds_toArray, List.set_cons_zero, List.set_cons_succ, i64_w, i32_w]
      rfl
    refine take_ (i := 7) (N := some 14) (a' := ?_) #[true, true, true, true, true, true, false, true, true, false, false, false, false] rfl rfl (by kernel_rfl) (fun c a w h => HP.out c a _ _ w h) (yieldsIf_load_mid (by rfl) 48 _ rfl hb 0 (by rfl) [.int .i64 n, .slice A len cap] _ (fun w' h => h) Try.underlying48 rfl (by kernel_rfl)) hHeld ?_ ?_
    rotate_left
    · simp only [Act.put, List.setIfInBounds_toArray, List.set_cons_zero, List.set_cons_succ, i64_w, i32_w]
      rfl
    refine one_ (i := 6) (N := some 13) #[true, true, true, true, true, true, true, true, true, false, false, false, false] rfl rfl (by kernel_rfl) (by decide) (fun K hK => ?_)
    refine goesV_ Try.func40 (by kernel_rfl) rfl #[.agg #[.int .i64 n, .slice A len cap], .int .i64 root] (by rfl) rfl rfl (by rfl) (by simp only [List.map_toArray, List.map_cons, List.map_nil]; rfl) ?_
    with_reducible refine (C5.out (HP4.out rfl) _ BB4.out).mono ?_
    rintro r w5 ⟨b5, g5, rfl, hq5, hr5, bb5⟩
    have BB5 : Hid (Below wr.heap.size wr w5) := BB4.out.trans (bb5.mono BB4.out.size)
    have e5 := Eff.of_below bb5 (fun _ => False)
    have HR5 := Lib.hid (And.intro hq5 hr5)
    clear bb5 hq5 hr5
    refine ⟨_, rfl, ?_⟩
    refine hK.out _ _ (rangeAt_eff hHeld e5 (fun h => h)) (fun hHeld => ?_)
    clear hK K
    refine norm_ (a' := ?_) ?_ ?_
    rotate_left
    · show Act.put _ (some 13) _ = _
      simp only [Act.put, List.setIfInBounds_toArray, List.set_cons_zero, List.set_cons_succ, i64_w, i32_w]
      rfl
    refine one_ (i := 9) (N := some 16) #[true, true, true, true, true, true, true, true, true, true, false, false, false] rfl rfl (by kernel_rfl) (by decide) (fun K hK => ?_)
    refine goesV_ Try.func57 (by kernel_rfl) rfl #[.agg #[.int .i64 n, .slice A len cap], .int .i64 root] (by rfl) rfl rfl (by rfl) (by simp only [List.map_toArray, List.map_cons, List.map_nil]; rfl) ?_
    with_reducible refine (C6.out (HP4.out rfl) _ BB5.out).mono ?_
    rintro r w6 ⟨b6, g6, rfl, hq6, hr6, bb6⟩
    have BB6 : Hid (Below wr.heap.size wr w6) := BB5.out.trans (bb6.mono BB5.out.size)
    have e6 := Eff.of_below bb6 (fun _ => False)
    have HR6 := Lib.hid (And.intro (And.intro HR5.out.1 (row_below HR5.out.2 bb6)) (And.intro hq6 hr6))
    clear bb6 hq6 hr6
    refine ⟨_, rfl, ?_⟩
    refine hK.out _ _ (rangeAt_eff hHeld e6 (fun h => h)) (fun hHeld => ?_)
    clear hK K
    refine norm_ (a' := ?_) ?_ ?_
    rotate_left
    · show Act.put _ (some 16) _ = _
      simp only [Act.put, List.setIfInBounds_toArray, List.set_cons_zero, List.set_cons_succ, i64_w, i32_w]
      rfl
    refine one_ (i := 10) (N := some 17) #[true, true, true, true, true, true, true, true, true, true, true, false, false] rfl rfl (by kernel_rfl) (by decide) (fun K hK => ?_)
    refine goesV_ Try.func53 (by kernel_rfl) rfl #[.slice (some ⟨b5, 0, none⟩) mA mA, .slice (some ⟨b6, 0, none⟩) mA mA] (by rfl) rfl rfl (by rfl) (by simp only [List.map_toArray, List.map_cons, List.map_nil]; rfl) ?_
    with_reducible refine (C7.out (HP4.out rfl) _ _ _ _ _ BB6.out HR6.out.1.1 HR6.out.2.1 HR6.out.1.2 HR6.out.2.2).mono ?_
    rintro r w7 ⟨rfl, bb7⟩
    have BB7 : Hid (Below wr.heap.size wr w7) := BB6.out.trans (bb7.mono BB6.out.size)
    have e7 := Eff.of_below bb7 (fun _ => False)
    clear bb7
    refine ⟨_, rfl, ?_⟩
    refine hK.out _ _ (rangeAt_eff hHeld e7 (fun h => h)) (fun hHeld => ?_)
    clear hK K
    refine norm_ (a' := ?_) ?_ ?_
    rotate_left
    · show Act.put _ (some 17) _ = _
      simp only [Act.put, List.setIfInBounds_toArray, List.set_cons_zero, List.set_cons_succ, i64_w, i32_w]
      rfl
    refine pure_ (i := 11) (N := some 18) (v := ?_) (a' := ?_) #[true, true, true, true, true, true, true, true, true, true, true, true, false] rfl rfl (by kernel_rfl) (fun c a w h => HP.out c a _ _ w h) (Or.inl ⟨by rfl, ?_⟩) ?_ ?_
    rotate_left
    · intro w'
      go_simp
      with_reducible rfl
    rotate_left
    · simp only [Act.put, List.setIfInBounds_toArray, List.set_cons_zero, List.set_cons_succ, i64_w, i32_w]
      rfl
    refine pure_ (i := 12) (N := some 4) (v := ?_) (a' := ?_) #[true, true, true, true, true, true, true, true, true, true, true, true, true] rfl rfl (by kernel_rfl) (fun c a w h => HP.out c a _ _ w h) (Or.inl ⟨by rfl, ?_⟩) ?_ ?_
    rotate_left
    · intro w'
      go_simp
      with_reducible rfl
    rotate_left
    · simp only [Act.put, List.setIfInBounds_toArray, List.set_cons_zero, List.set_cons_succ, i64_w, i32_w]
      rfl
    refine done_ (by kernel_rfl) ?_
    exact HQ.out _ BB7.out _ _ _ _ _ _ _ _ _ _ _ _

set_option maxHeartbeats 8000000 in
set_option maxRecDepth 100000 in
theorem matches_walk (n : Int) (A : Option Addr) (cap : Nat) (es : List REd) (root : Int) (w : World) (hA : EdsIn w A es) : Calls Try.prog 20 #[.agg #[.int .i64 n, .slice A es.length cap], .int .i64 root] w (TruePost w) := by
  have HA := Lib.hid hA
  clear hA
  obtain ⟨W1, hW1⟩ : ∃ W, W = w.alloc (.cells #[.int .i64 n, .slice A es.length cap] 48) := ⟨_, rfl⟩
  obtain ⟨hb, hhb⟩ : ∃ b, b = w.heap.size := ⟨_, rfl⟩
  have B1 : Hid (Below w.heap.size w W1) := by rw [hW1]; exact (Below.refl _ _).alloc (Nat.le_refl _) _
  have H1 : Hid (HBZ W1 hb n es.length cap A) := by show W1.heap[hb]? = _; rw [hW1, hhb]; exact heap_alloc_new w _
  have HW1 := Lib.hid (And.intro hW1 hhb)
  have AW := Lib.hid (awake38 W1)
  clear hW1 hhb
  go_enter Try.func20, Try.ntmps20
  go_wp2_with fail
  rw [← HW1.out.1, ← HW1.out.2]
  with_reducible refine AW.out.mono ?_
  rintro r w2 ⟨rfl, b2⟩
  have B2 : Hid (Below w.heap.size w w2) := B1.out.trans (b2.mono B1.out.size)
  have H2 := Lib.hid (H1.out.bel b2)
  have CS := Lib.hid (small39 (cap := cap) n es (HA.out.below B2.out))
  clear b2 H1 B1 HW1 AW
  obtain ⟨y0, y1⟩ := H2.out.c
  go_wp2_with fail
  have C39 : Hid (Calls Try.prog 39 #[.agg #[.int .i64 n, .slice A es.length cap]] w2.drew (YesPost w2.drew (∃ m v f, ShortH n es m v f))) := small39 (cap := cap) n es (HA.out.below B2.out.drew)
  have C5 : Hid ((∃ m v f, ShortH n es m v f) → ∀ W : World, Below w2.heap.size w2 W → Calls Try.prog 40 #[.agg #[.int .i64 n, .slice A es.length cap], .int .i64 root] W (SPost 3 n.toNat (RowQ (es.map REd.plain) n.toNat root fOut) W)) := fun hP W hW => by
    obtain ⟨m, v, f, ⟨rfl, h1, h30, h60, hok⟩, _, _⟩ := hP
    exact (outside40 root (HA.out.below (B2.out.trans (hW.mono B2.out.size))) hok h30 h60).mono (fun _ _ h => RPost.s h)
  have C6 : Hid ((∃ m v f, ShortH n es m v f) → ∀ W : World, Below w2.heap.size w2 W → Calls Try.prog 57 #[.agg #[.int .i64 n, .slice A es.length cap], .int .i64 root] W (SPost 3 n.toNat (RowQ (es.map REd.plain) n.toNat root fOut) W)) := fun hP W hW => by
    obtain ⟨m, v, f, ⟨rfl, h1, h30, h60, hok⟩, _, _⟩ := hP
    exact (out57 root (HA.out.below (B2.out.trans (hW.mono B2.out.size))) hok h30 h60).mono (fun _ _ h => RPost.s h)
  have C7 : Hid ((∃ m v f, ShortH n es m v f) → ∀ (W : World) (b5 b6 : Nat) (g5 g6 : Nat → Value), Below w2.heap.size w2 W → RowQ (es.map REd.plain) n.toNat root fOut g5 → RowQ (es.map REd.plain) n.toNat root fOut g6 → W.rowIs b5 3 n.toNat g5 → W.rowIs b6 3 n.toNat g6 → Calls Try.prog 53 #[.slice (some ⟨b5, 0, none⟩) n.toNat n.toNat, .slice (some ⟨b6, 0, none⟩) n.toNat n.toNat] W fun r w' => r = .returned (.bool true) ∧ Below W.heap.size W w') := fun hP W b5 b6 g5 g6 _ q5 q6 r5 r6 => by
    obtain ⟨m, v, f, ⟨rfl, h1, h30, h60, hok⟩, _, _⟩ := hP
    exact same_rows (edges_ok hok) fOut_congr (by show m ≤ 1000; omega) W b5 b6 g5 g6 q5 q6 r5 r6
  clear y0 y1 CS
  refine m20_r3 (fun _ _ _ _ _ h => h) (hbR H2.out) C39 C5 C6 C7 ?_
  intro w8 b8 t7 t8 t9 t10 t11 t12 t13 t14 t15 t16 t17 t18
  have B8 : Hid (Below w.heap.size w w8) := B2.out.trans (b8.mono B2.out.size)
  clear b8 C39 C5 C6 C7
  go_wp2_with fail
  go_ret
  exact ⟨rfl, B8.out⟩
end Go.Proofs.Ytepfbhigeghjjaa.Q
