/- OutsideRootEdges: the plain law and the walk. -/
import Derived.Test.YtepfbhigeghjjaaO33y
import Derived.Test.YtepfbhigeghjjaaK4
namespace Go.Proofs.Ytepfbhigeghjjaa.Q
open Go.RowKit Go.Proofs.YtepfbhigeghjjaaW.PrintLast
set_option linter.unusedVariables false
set_option linter.unusedSimpArgs false

theorem fold_cost : ∀ (l : List K.V) (a : K.V), a.1 ≤ 1099511627776 → (∀ x ∈ l, 0 ≤ x.1) → (l.foldl K.stepV a).1 = min (a.1 + (l.map Prod.fst).sum) 1099511627776
  | [], a, h, _ => by
    show a.1 = min (a.1 + 0) 1099511627776
    omega
  | x :: l, a, h, hx => by
    have h1 := hx x (by simp)
    have h2 := fold_cost l (K.stepV a x) (by show min (a.1 + x.1) K.INF ≤ _; exact Int.min_le_right _ _) (fun y hy => hx y (by simp [hy]))
    have h3 : 0 ≤ (l.map Prod.fst).sum := by
      clear h2
      induction l with
      | nil => exact Int.le_refl _
      | cons y l ih =>
        have h4 := ih (fun z hz => hx z (by
          rcases List.mem_cons.1 hz with rfl | hz
          · simp
          · simp [hz]))
        have h5 := hx y (by simp)
        simp only [List.map_cons, List.sum_cons]
        omega
    have h4 : (K.stepV a x).1 = min (a.1 + x.1) 1099511627776 := rfl
    simp only [List.foldl_cons, List.map_cons, List.sum_cons]
    rw [h2, h4]
    omega
theorem oth_sum (inn : Nat → Int) : ∀ (l : List Nat) (j : Nat), K.oth inn l j (-1) = (l.map inn).sum
  | [], _ => rfl
  | t :: l, j => by
    simp only [K.oth, List.map_cons, List.sum_cons, oth_sum inn l (j + 1)]
    rw [if_neg (by omega)]
theorem comb_cost {n : Nat} {e : K.Ed} (he : K.OkE n e) {v : Nat → K.V} (hv : ∀ i, i < n → K.OkV (v i)) : (K.comb e v).1 = min (e.cost + K.oth (fun i => (v i).1) e.tails 0 (-1)) 1099511627776 := by
  have h1 := fold_cost (e.tails.map v) (e.cost, 1) he.2.2.2 (fun x hx => by
    obtain ⟨t, ht, rfl⟩ := List.mem_map.1 hx
    exact (hv t (he.2.1 t ht)).1)
  have h2 : ((e.tails.map v).map Prod.fst).sum = K.oth (fun i => (v i).1) e.tails 0 (-1) := by
    rw [oth_sum, List.map_map]
    rfl
  rw [h2] at h1
  have h3 : (K.comb e v).1 = (K.endV ((e.tails.map v).foldl K.stepV (e.cost, 1))).1 := rfl
  have hI : K.INF = 1099511627776 := rfl
  rw [h3]
  unfold K.endV
  split
  · rename_i h4
    show (1099511627776 : Int) = _
    rw [hI, h1] at h4
    have h5 : ((e.cost, (1 : Int)) : K.V).1 = e.cost := rfl
    rw [h5] at h4
    omega
  · exact h1
/-- The least of the root's hyperedges. -/
def bestE (E : List K.Ed) (g : Nat → Int) (root : Nat) : Nat → Int
  | 0 => 1099511627776
  | k + 1 => match E[k]? with
    | some e => if e.head = root then min (bestE E g root k) (g k) else bestE E g root k
    | none => bestE E g root k
theorem bestE_le {E : List K.Ed} {g : Nat → Int} {root : Nat} : ∀ (k : Nat), bestE E g root k ≤ 1099511627776 ∧ ∀ (j : Nat) e, j < k → E[j]? = some e → e.head = root → bestE E g root k ≤ g j
  | 0 => ⟨Int.le_refl _, fun j e h => absurd h (Nat.not_lt_zero j)⟩
  | k + 1 => by
    obtain ⟨h1, h2⟩ := bestE_le (E := E) (g := g) (root := root) k
    unfold bestE
    cases he : E[k]? with
    | none => exact ⟨h1, fun j e hj hje hr => by
        by_cases hjk : j = k
        · subst hjk; rw [he] at hje; cases hje
        · exact h2 j e (by omega) hje hr⟩
    | some e0 =>
      dsimp only
      split
      · refine ⟨by omega, fun j e hj hje hr => ?_⟩
        by_cases hjk : j = k
        · subst hjk; omega
        · have := h2 j e (by omega) hje hr; omega
      · rename_i h3
        refine ⟨h1, fun j e hj hje hr => ?_⟩
        by_cases hjk : j = k
        · subst hjk; rw [he] at hje; cases hje; exact absurd hr h3
        · exact h2 j e (by omega) hje hr
theorem bestE_ge {E : List K.Ed} {g : Nat → Int} {root : Nat} {x : Int} (hx : x ≤ 1099511627776) (h : ∀ (j : Nat) e, E[j]? = some e → e.head = root → x ≤ g j) : ∀ (k : Nat), x ≤ bestE E g root k
  | 0 => hx
  | k + 1 => by
    have h1 := bestE_ge hx h k
    unfold bestE
    cases he : E[k]? with
    | none => exact h1
    | some e0 =>
      dsimp only
      split
      · rename_i h3
        have := h k e0 he h3
        omega
      · exact h1
theorem root_best {E : List K.Ed} {n root : Nat} (hE : ∀ e ∈ E, K.OkE n e) {v : Nat → K.V} {f out : Nat → Int} (hs : K.Sol E n v f) (ho : out root = 0) (hr : root < n) : bestE E (fEdge E (fun i => (v i).1) out) root E.length = (v root).1 := by
  have hI : K.INF = 1099511627776 := rfl
  have hok := hs.fix.ok root hr
  unfold K.OkV at hok
  have key : ∀ (j : Nat) e, E[j]? = some e → e.head = root → fEdge E (fun i => (v i).1) out j = (K.comb e v).1 := fun j e he hh => by
    unfold fEdge
    rw [he]
    show min (out e.head + e.cost + K.oth (fun i => (v i).1) e.tails 0 (-1)) 1099511627776 = _
    rw [comb_cost (hE e (List.mem_of_getElem? he)) hs.fix.ok, hh, ho, Int.zero_add]
  apply Int.le_antisymm
  · by_cases hf : (v root).1 < K.INF
    · obtain ⟨k, e, h1, h2, h3, h4⟩ := hs.fix.att hE hr hf
      have h5 := (bestE_le (E := E) (g := fEdge E (fun i => (v i).1) out) (root := root) E.length).2 k e (List.getElem?_eq_some_iff.1 h1).1 h1 h2
      rw [key k e h1 h2, h4] at h5
      exact h5
    · have := (bestE_le (E := E) (g := fEdge E (fun i => (v i).1) out) (root := root) E.length).1
      omega
  · refine bestE_ge (by omega) (fun j e he hh => ?_) _
    rw [key j e he hh]
    have h1 := hs.fix.le e (List.mem_of_getElem? he)
    rw [hh, K.leV_iff] at h1
    omega
theorem bestE_next {E : List K.Ed} {g : Nat → Int} {root k : Nat} {e : K.Ed} (he : E[k]? = some e) : bestE E g root (k + 1) = if e.head = root then min (bestE E g root k) (g k) else bestE E g root k := by
  show (match E[k]? with | some e => if e.head = root then min (bestE E g root k) (g k) else bestE E g root k | none => bestE E g root k) = _
  rw [he]

set_option maxHeartbeats 2000000 in
set_option maxRecDepth 100000 in
theorem r24_r5 {hb len cap mA mB : Nat} {n root : Int} {A : Option Addr} {QA QB : (Nat → Value) → Prop} {Q : Exit → Act → World → Prop} (hp : ∀ c (a : Act) (i : Nat) (v : Value) w, Q (.panic c) (a.put (some i) v) w → Q (.panic c) a w)
    {u0 u3 u4 u5 u6 u7 u8 u9 u10 u11 u12 u13 u14 u15 u16 u17 u18 u19 u20 u21 u22 u23 u24 u25 u26 u27 u28 u29 u30 u31 u32 u33 u34 u35 u36 u37 u38 u39 u40 u41 u42 u43 u44 u45 u46 u47 u48 u49 u50 u51 u52 u53 u54 u55 u56 u57 u58 u59 u60 u61 u62 u63 u64 u65 u66 u67 u68 u69 u70 u71 u72 u73 u74 u75 u76 u77 u78 u79 u80 u81 u82 u83 : Value} {wr : World} (HR : wr.rangeAt hb 0 [.int .i64 n, .slice A len cap]) (C5 : Hid (∀ W : World, Below wr.heap.size wr W → Calls Try.prog 40 #[.agg #[.int .i64 n, .slice A len cap], .int .i64 root] W (SPost 3 mA QA W))) (C6 : Hid (∀ W : World, Below wr.heap.size wr W → Calls Try.prog 59 #[.agg #[.int .i64 n, .slice A len cap], .int .i64 root] W (SPost 3 mB QB W)))
    (hQ : ∀ (b5 b6 : Nat) (g5 g6 : Nat → Value) (w8 : World), (QA g5 ∧ w8.rowIs b5 3 mA g5) ∧ QB g6 ∧ w8.rowIs b6 3 mB g6 → Below wr.heap.size wr w8 → ∀ (t26 t27 t28 t29 t30 t31 : Value), Q .normal { tmps := #[u0, .int .i64 root, .pointer (some ⟨hb, 0, none⟩), u3, u4, .slice (some ⟨b5, 0, none⟩) mA mA, .slice (some ⟨b6, 0, none⟩) mB mB, u7, u8, u9, u10, u11, u12, u13, u14, u15, u16, u17, u18, u19, u20, u21, u22, u23, u24, u25, t26, t27, t28, t29, t30, t31, u32, u33, u34, u35, u36, u37, u38, u39, u40, u41, u42, u43, u44, u45, u46, u47, u48, u49, u50, u51, u52, u53, u54, u55, u56, u57, u58, u59, u60, u61, u62, u63, u64, u65, u66, u67, u68, u69, u70, u71, u72, u73, u74, u75, u76, u77, u78, u79, u80, u81, u82, u83], defers := [] } (w8)) :
    Code.wp Try.prog (reg (Try.f24) 5) Q { tmps := #[u0, .int .i64 root, .pointer (some ⟨hb, 0, none⟩), u3, u4, u5, u6, u7, u8, u9, u10, u11, u12, u13, u14, u15, u16, u17, u18, u19, u20, u21, u22, u23, u24, u25, u26, u27, u28, u29, u30, u31, u32, u33, u34, u35, u36, u37, u38, u39, u40, u41, u42, u43, u44, u45, u46, u47, u48, u49, u50, u51, u52, u53, u54, u55, u56, u57, u58, u59, u60, u61, u62, u63, u64, u65, u66, u67, u68, u69, u70, u71, u72, u73, u74, u75, u76, u77, u78, u79, u80, u81, u82, u83], defers := [] } wr := by
  have HQ := Lib.hid hQ
  have HP := Lib.hid hp
  clear hQ hp
  refine start_ (n := 8) (S := fun w' => w'.rangeAt hb 0 [.int .i64 n, .slice A len cap]) (ds := []) #[false, false, false, false, false, false, false, false] (by kernel_rfl) rfl rfl HR (fun hHeld => ?_)
  refine pure_ (i := 1) (N := some 27) (v := ?_) (a' := ?_) #[false, true, false, false, false, false, false, false] rfl rfl (by kernel_rfl) (fun c a w h => HP.out c a _ _ w h) (Or.inl ⟨by rfl, ?_⟩) ?_ ?_
  rotate_left
  · intro w'
    go_simp
    with_reducible rfl
  rotate_left
  · simp only [Act.put, List.setIfInBounds_toArray, List.set_cons_zero, List.set_cons_succ, i64_w, i32_w]
    rfl
  refine pure_ (i := 4) (N := some 30) (v := ?_) (a' := ?_) #[false, true, false, false, true, false, false, false] rfl rfl (by kernel_rfl) (fun c a w h => HP.out c a _ _ w h) (Or.inl ⟨by rfl, ?_⟩) ?_ ?_
  rotate_left
  · intro w'
    go_simp
    with_reducible rfl
  rotate_left
  · simp only [Act.put, List.setIfInBounds_toArray, List.set_cons_zero, List.set_cons_succ, i64_w, i32_w]
    rfl
  refine take_ (i := 0) (N := some 26) (a' := ?_) #[true, true, false, false, true, false, false, false] rfl rfl (by kernel_rfl) (fun c a w h => HP.out c a _ _ w h) (yieldsIf_load_mid (by rfl) 48 _ rfl hb 0 (by rfl) [.int .i64 n, .slice A len cap] _ (fun w' h => h) Try.underlying48 rfl (by kernel_rfl)) hHeld ?_ ?_
  rotate_left
  · simp only [Act.put, List.setIfInBounds_toArray, List.set_cons_zero, List.set_cons_succ, i64_w, i32_w]
    rfl
  refine take_ (i := 3) (N := some 29) (a' := ?_) #[true, true, false, true, true, false, false, false] rfl rfl (by kernel_rfl) (fun c a w h => HP.out c a _ _ w h) (yieldsIf_load_mid (by rfl) 48 _ rfl hb 0 (by rfl) [.int .i64 n, .slice A len cap] _ (fun w' h => h) Try.underlying48 rfl (by kernel_rfl)) hHeld ?_ ?_
  rotate_left
  · simp only [Act.put, List.setIfInBounds_toArray, List.set_cons_zero, List.set_cons_succ, i64_w, i32_w]
    rfl
  refine one_ (i := 2) (N := some 28) #[true, true, true, true, true, false, false, false] rfl rfl (by kernel_rfl) (by decide) (fun K hK => ?_)
  refine goesV_ Try.func40 (by kernel_rfl) rfl #[.agg #[.int .i64 n, .slice A len cap], .int .i64 root] (by rfl) rfl rfl (by rfl) (by simp only [List.map_toArray, List.map_cons, List.map_nil]; rfl) ?_
  with_reducible refine (C5.out _ (Below.refl wr.heap.size wr).drew).mono ?_
  rintro r w5 ⟨b5, g5, rfl, hq5, hr5, bb5⟩
  have BB5 : Hid (Below wr.heap.size wr w5) := (Below.refl _ _).drew.trans bb5
  have e5 := Eff.of_below bb5 (fun _ => False)
  have HR5 := Lib.hid (And.intro hq5 hr5)
  clear bb5 hq5 hr5
  refine ⟨_, rfl, ?_⟩
  refine hK.out _ _ (rangeAt_eff hHeld e5 (fun h => h)) (fun hHeld => ?_)
  clear hK K
  refine norm_ (a' := ?_) ?_ ?_
  rotate_left
  · show Act.put _ (some 28) _ = _
    simp only [Act.put, List.setIfInBounds_toArray, List.set_cons_zero, List.set_cons_succ, i64_w, i32_w]
    rfl
  refine one_ (i := 5) (N := some 31) #[true, true, true, true, true, true, false, false] rfl rfl (by kernel_rfl) (by decide) (fun K hK => ?_)
  refine goesV_ Try.func59 (by kernel_rfl) rfl #[.agg #[.int .i64 n, .slice A len cap], .int .i64 root] (by rfl) rfl rfl (by rfl) (by simp only [List.map_toArray, List.map_cons, List.map_nil]; rfl) ?_
  with_reducible refine (C6.out _ BB5.out).mono ?_
  rintro r w6 ⟨b6, g6, rfl, hq6, hr6, bb6⟩
  have BB6 : Hid (Below wr.heap.size wr w6) := BB5.out.trans (bb6.mono BB5.out.size)
  have e6 := Eff.of_below bb6 (fun _ => False)
  have HR6 := Lib.hid (And.intro (And.intro HR5.out.1 (row_below HR5.out.2 bb6)) (And.intro hq6 hr6))
  clear bb6 hq6 hr6
  refine ⟨_, rfl, ?_⟩
  refine hK.out _ _ (rangeAt_eff hHeld e6 (fun h => h)) (fun hHeld => ?_)
  clear hK K
  refine norm_ (a' := ?_) ?_ ?_
  rotate_left
  · show Act.put _ (some 31) _ = _
    simp only [Act.put, List.setIfInBounds_toArray, List.set_cons_zero, List.set_cons_succ, i64_w, i32_w]
    rfl
  refine pure_ (i := 6) (N := some 5) (v := ?_) (a' := ?_) #[true, true, true, true, true, true, true, false] rfl rfl (by kernel_rfl) (fun c a w h => HP.out c a _ _ w h) (Or.inl ⟨by rfl, ?_⟩) ?_ ?_
  rotate_left
  · intro w'
    go_simp
    with_reducible rfl
  rotate_left
  · simp only [Act.put, List.setIfInBounds_toArray, List.set_cons_zero, List.set_cons_succ, i64_w, i32_w]
    rfl
  refine pure_ (i := 7) (N := some 6) (v := ?_) (a' := ?_) #[true, true, true, true, true, true, true, true] rfl rfl (by kernel_rfl) (fun c a w h => HP.out c a _ _ w h) (Or.inl ⟨by rfl, ?_⟩) ?_ ?_
  rotate_left
  · intro w'
    go_simp
    with_reducible rfl
  rotate_left
  · simp only [Act.put, List.setIfInBounds_toArray, List.set_cons_zero, List.set_cons_succ, i64_w, i32_w]
    rfl
  refine done_ (by kernel_rfl) ?_
  exact HQ.out _ _ _ _ _ HR6.out BB6.out _ _ _ _ _ _

set_option maxHeartbeats 8000000 in
set_option maxRecDepth 100000 in
theorem root_walk (n : Int) (A : Option Addr) (cap : Nat) (es : List REd) (root : Int) (w : World) (hA : EdsIn w A es) : Calls Try.prog 24 #[.agg #[.int .i64 n, .slice A es.length cap], .int .i64 root] w (TruePost w) := by
  have HA := Lib.hid hA
  clear hA
  obtain ⟨W1, hW1⟩ : ∃ W, W = w.alloc (.cells #[.int .i64 n, .slice A es.length cap] 48) := ⟨_, rfl⟩
  obtain ⟨hb, hhb⟩ : ∃ b, b = w.heap.size := ⟨_, rfl⟩
  have B1 : Hid (Below w.heap.size w W1) := by rw [hW1]; exact (Below.refl _ _).alloc (Nat.le_refl _) _
  have H1 : Hid (HBZ W1 hb n es.length cap A) := by show W1.heap[hb]? = _; rw [hW1, hhb]; exact heap_alloc_new w _
  have HW1 := Lib.hid (And.intro hW1 hhb)
  have AW := Lib.hid (awake38 W1)
  clear hW1 hhb
  go_enter Try.func24, Try.ntmps24
  go_wp2_with fail
  rw [← HW1.out.1, ← HW1.out.2]
  with_reducible refine AW.out.mono ?_
  rintro r w2 ⟨rfl, b2⟩
  have B2 : Hid (Below w.heap.size w w2) := B1.out.trans (b2.mono B1.out.size)
  have H2 := Lib.hid (H1.out.bel b2)
  have CS := Lib.hid (small39 (cap := cap) n es (HA.out.below B2.out))
  clear b2 H1 B1 HW1 AW
  obtain ⟨y0, y1⟩ := H2.out.c
  go_wp2_with fail
  with_reducible refine CS.out.mono ?_
  rintro r w3 ⟨b, rfl, hb3, b3⟩
  have B3 : Hid (Below w.heap.size w w3) := B2.out.trans (b3.mono B2.out.size)
  have H3 := Lib.hid (H2.out.bel b3)
  have SM := Lib.hid hb3
  clear b3 hb3 y0 y1 H2 B2 CS
  obtain ⟨y0, y1⟩ := H3.out.c
  cases b with
  | false =>
    go_wp2_with fail
    go_ret
    exact ⟨rfl, B3.out⟩
  | true =>
    obtain ⟨m, v0, f0, hm⟩ := SM.out rfl
    obtain ⟨⟨rfl, h1, h30, h60, hok⟩, hs0, hz0⟩ := hm
    have HOK := Lib.hid hok
    have HEE : Hid (∀ e ∈ es.map REd.plain, K.OkE m e) := edges_ok hok
    clear SM hok hs0 hz0
    by_cases hr0 : root < 0
    · go_wp2_with fail
      go_ret
      exact ⟨rfl, B3.out⟩
    by_cases hr1 : (m : Int) ≤ root
    · go_wp2_with fail
      go_ret
      exact ⟨rfl, B3.out⟩
    obtain ⟨root, rfl⟩ : ∃ r : Nat, root = r := ⟨root.toNat, (Int.toNat_of_nonneg (by omega)).symm⟩
    have hrt : root < m := by omega
    have hrz : (root : Int) < (m : Int) := by omega
    have C5 : Hid (∀ W : World, Below w3.heap.size w3 W → Calls Try.prog 40 #[.agg #[.int .i64 m, .slice A es.length cap], .int .i64 root] W (SPost 3 m (RowQ (es.map REd.plain) m root fOut) W)) := fun W hW => (outside40 root (HA.out.below (B3.out.trans (hW.mono B3.out.size))) HOK.out h30 h60).mono (fun _ _ h => RPost.s h)
    have C6 : Hid (∀ W : World, Below w3.heap.size w3 W → Calls Try.prog 59 #[.agg #[.int .i64 m, .slice A es.length cap], .int .i64 root] W (SPost 3 es.length (RowQ (es.map REd.plain) m root (fEdge (es.map REd.plain))) W)) := fun W hW => (edge59 root (HA.out.below (B3.out.trans (hW.mono B3.out.size))) HOK.out h30 h60).mono (fun _ _ h => RPost.s h)
    go_wp2_with fail
    clear y0 y1
    refine r24_r5 (fun _ _ _ _ _ h => h) (hbR H3.out) C5 C6 ?_
    intro b5 b6 g5 g6 w8 hQ b8 t26 t27 t28 t29 t30 t31
    obtain ⟨⟨⟨v, f, out, hs, ho, rfl⟩, hr5⟩, ⟨v', f', out', hs', ho', rfl⟩, hr6⟩ := hQ
    have HI : Hid (Below w.heap.size w w8 ∧ HBZ w8 hb m es.length cap A ∧ w8.rowIs b6 3 es.length (intRow (fEdge (es.map REd.plain) (fun i => (v' i).1) out'))) := ⟨B3.out.trans (b8.mono B3.out.size), H3.out.bel b8, hr6⟩
    have HQ : Hid (K.Sol (es.map REd.plain) m v' f' ∧ out' root = 0) := ⟨hs', (ho'.1 ⟨Int.natCast_nonneg _, hrz⟩).rt⟩
    have x1 : w8.cell? ⟨b5, root, none⟩ = some (.int .i64 0) := by
      have := hr5.cell hrt
      rw [this]
      show some (Value.int .i64 (out root)) = _
      rw [show out root = 0 from (ho.1 ⟨Int.natCast_nonneg _, hrz⟩).rt]
    have C51 := Lib.hid (solve51 (ecap := cap) (HA.out.below HI.out.1) HOK.out (by omega) (by omega))
    clear hs ho hs' ho' hr5 hr6 b8 C5 C6 H3 B3
    obtain ⟨y0, y1⟩ := HI.out.2.1.c
    go_wp2_with fail
    with_reducible refine C51.out.mono ?_
    rintro r w9 ⟨bv, be, v2, f2, rfl, hs2, hv2, hf2, b9, _, _⟩
    have HJ : Hid (Below w.heap.size w w9 ∧ HBZ w9 hb m es.length cap A ∧ w9.rowIs b6 3 es.length (intRow (fEdge (es.map REd.plain) (fun i => (v' i).1) out')) ∧ ValsAt w9 bv m v2) := ⟨HI.out.1.trans (b9.mono HI.out.1.size), HI.out.2.1.bel b9, row_below HI.out.2.2 b9, hv2⟩
    have HB : Hid (bestE (es.map REd.plain) (fEdge (es.map REd.plain) (fun i => (v' i).1) out') root es.length = (v2 root).1) := by
      have h1 := root_best HEE.out HQ.out.1 HQ.out.2 hrt
      rw [List.length_map] at h1
      show _ = _
      rw [h1, (HQ.out.1.unique HEE.out hs2 root hrt).1]
    clear hs2 hv2 hf2 b9 x1 y0 y1 HI C51
    go_wp2_with fail
    go_loopg [9, 10] es.length (fun gk s9 s10 wr => ∃ (c : Int) (k : Nat), s9 = .int .i64 c ∧ s10 = .int .i64 k ∧ k ≤ es.length ∧ es.length - k ≤ gk ∧ Hid ((Below w.heap.size w wr ∧ HBZ wr hb m es.length cap A ∧ wr.rowIs b6 3 es.length (intRow (fEdge (es.map REd.plain) (fun i => (v' i).1) out')) ∧ ValsAt wr bv m v2) ∧ bestE (es.map REd.plain) (fEdge (es.map REd.plain) (fun i => (v' i).1) out') root k = c))
    case atStart => exact ⟨_, 0, rfl, rfl, by omega, by omega, HJ.out, rfl⟩
    case round =>
      clear HJ
      obtain ⟨c, k, rfl, rfl, hi, hk, HR⟩ := hrel
      obtain ⟨y0, y1⟩ := HR.out.1.2.1.c
      by_cases hlt : k < es.length
      · have hlz : (k : Int) < (es.length : Int) := by omega
        obtain ⟨e, he⟩ : ∃ e, es[k]? = some e := ⟨_, List.getElem?_eq_getElem hlt⟩
        have hok := HOK.out e (List.mem_of_getElem? he)
        have hek : (es.map REd.plain)[k]? = some e.plain := by rw [List.getElem?_map, he]; rfl
        obtain ⟨eb0, eo, rfl, z0, z1, z2, z3, z4⟩ := HA.out.c HR.out.1.1 he
        obtain ⟨hn', hhn⟩ : ∃ x, e.head.toNat = x := ⟨_, rfl⟩
        have hhe : e.head = (hn' : Int) := by rw [← hhn, Int.toNat_of_nonneg hok.1]
        have hph : e.plain.head = hn' := hhn
        have hnx := bestE_next (g := fEdge (es.map REd.plain) (fun i => (v' i).1) out') (root := root) hek
        rw [hph, HR.out.2] at hnx
        obtain ⟨x, hx⟩ : ∃ x, fEdge (es.map REd.plain) (fun i => (v' i).1) out' k = x := ⟨_, rfl⟩
        rw [hx] at hnx
        have x2 : wr.cell? ⟨b6, k, none⟩ = some (.int .i64 x) := by rw [← hx]; exact HR.out.1.2.2.1.cell hlt
        rw [hhe] at z0
        by_cases hh : hn' = root
        · rw [if_pos hh] at hnx
          subst hh
          by_cases hmn : c ≤ x
          · have N9 : Hid (bestE (es.map REd.plain) (fEdge (es.map REd.plain) (fun i => (v' i).1) out') hn' (k + 1) = c) := by show _ = _; rw [hnx]; omega
            have hmn2 : ¬ x < c := by omega
            clear he hok hek hhn hhe hph hnx hx
            go_wp2_with fail
            go_roundg (es.length - (k + 1))
            case measure => omega
            case rel => exact ⟨_, k + 1, rfl, by go_num, by omega, by omega, HR.out.1, by rw [N9.out]⟩
          · have N9 : Hid (bestE (es.map REd.plain) (fEdge (es.map REd.plain) (fun i => (v' i).1) out') hn' (k + 1) = x) := by show _ = _; rw [hnx]; omega
            have hmn2 : x < c := by omega
            clear he hok hek hhn hhe hph hnx hx
            go_wp2_with fail
            go_roundg (es.length - (k + 1))
            case measure => omega
            case rel => exact ⟨_, k + 1, rfl, by go_num, by omega, by omega, HR.out.1, by rw [N9.out]⟩
        · rw [if_neg hh] at hnx
          have hhz : ¬ (hn' : Int) = (root : Int) := by omega
          have hhb : ((hn' : Int) == (root : Int)) = false := beq_eq_false_iff_ne.2 hhz
          have N9 := Lib.hid hnx
          clear he hok hek hhn hhe hph hnx hx
          go_wp2_with fail
          go_roundg (es.length - (k + 1))
          case measure => omega
          case rel => exact ⟨c, k + 1, rfl, by go_num, by omega, by omega, HR.out.1, N9.out⟩
      · have hlz : ¬ (k : Int) < (es.length : Int) := by omega
        obtain rfl : es.length = k := by omega
        have x3 : wr.cell? ⟨bv, root * 2, none⟩ = some (.int .i64 c) := by
          have := HR.out.1.2.2.2.at_ root hrt 0 (.int .i64 (v2 root).1) rfl
          rw [← HB.out, HR.out.2] at this
          exact this
        go_wp2_with fail
        go_ret
        exact ⟨by simp, HR.out.1.1⟩
end Go.Proofs.Ytepfbhigeghjjaa.Q
