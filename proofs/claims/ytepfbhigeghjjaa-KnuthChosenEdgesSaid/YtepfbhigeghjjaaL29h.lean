/- KnuthChosenEdges: the walk. -/
import Derived.Test.YtepfbhigeghjjaaL29ha
import Derived.Test.YtepfbhigeghjjaaKPb
namespace Go.Proofs.Ytepfbhigeghjjaa.Q
open Go.RowKit Go.Proofs.YtepfbhigeghjjaaW.PrintLast
set_option linter.unusedVariables false
set_option linter.unusedSimpArgs false

/-- l holds the hyperedges that the first i nodes have chosen. -/
def ChoL (es : List REd) (f : Nat → Int) (i : Nat) (l : List REd) : Prop := l.length ≤ i ∧ (∀ (j k : Nat) e, j < i → f j = k → es[k]? = some e → e ∈ l) ∧ ∀ e ∈ l, e ∈ es
theorem ChoL.yes {es : List REd} {f : Nat → Int} {i k : Nat} {l : List REd} {e : REd} (h : ChoL es f i l) (hf : f i = k) (he : es[k]? = some e) : ChoL es f (i + 1) (l ++ [e]) := by
  refine ⟨by rw [List.length_append]; have := h.1; simp; omega, fun j k' e' hj hf' he' => ?_, fun e' he' => ?_⟩
  · by_cases hji : j = i
    · subst hji
      rw [hf] at hf'
      obtain rfl : k = k' := by omega
      rw [he] at he'
      cases he'
      simp
    · exact List.mem_append_left _ (h.2.1 j k' e' (by omega) hf' he')
  · rcases List.mem_append.1 he' with h1 | h1
    · exact h.2.2 e' h1
    · obtain rfl : e' = e := by simpa using h1
      exact List.mem_of_getElem? he
theorem ChoL.no {es : List REd} {f : Nat → Int} {i : Nat} {l : List REd} (h : ChoL es f i l) (hf : f i = -1) : ChoL es f (i + 1) l :=
  ⟨by have := h.1; omega, fun j k' e' hj hf' he' => by
    by_cases hji : j = i
    · subst hji
      rw [hf] at hf'
      omega
    · exact h.2.1 j k' e' (by omega) hf' he', h.2.2⟩
set_option maxHeartbeats 8000000 in
set_option maxRecDepth 100000 in
theorem chosen_walk (n : Int) (A : Option Addr) (cap : Nat) (es : List REd) (w : World) (hA : EdsIn w A es) : Calls Try.prog 16 #[.agg #[.int .i64 n, .slice A es.length cap]] w (TruePost w) := by
  have AW := Lib.hid awake44
  have HA := Lib.hid hA
  clear hA
  obtain ⟨W1, hW1⟩ : ∃ W, W = w.alloc (.cells #[.int .i64 n, .slice A es.length cap] 48) := ⟨_, rfl⟩
  obtain ⟨hb, hhb⟩ : ∃ b, b = w.heap.size := ⟨_, rfl⟩
  have B1 : Hid (Below w.heap.size w W1) := by rw [hW1]; exact (Below.refl _ _).alloc (Nat.le_refl _) _
  have H1 : Hid (HBZ W1 hb n es.length cap A) := by show W1.heap[hb]? = _; rw [hW1, hhb]; exact heap_alloc_new w _
  have HW1 := Lib.hid (And.intro hW1 hhb)
  have CS := Lib.hid (bounded49 (cap := cap) n es (HA.out.below B1.out))
  clear hW1 hhb
  go_enter Try.func16, Try.ntmps16
  go_wp2_with fail
  rw [← HW1.out.1, ← HW1.out.2]
  with_reducible refine CS.out.mono ?_
  rintro r w2 ⟨b, rfl, hb2, b2⟩
  have B2 : Hid (Below w.heap.size w w2) := B1.out.trans (b2.mono B1.out.size)
  have H2 := Lib.hid (H1.out.bel b2)
  have SM := Lib.hid hb2
  clear b2 hb2 H1 B1 HW1 CS
  cases b with
  | false =>
    go_wp2_with fail
    with_reducible refine (AW.out _).mono ?_
    rintro r w3 ⟨rfl, b3⟩
    have B3 : Hid (Below w.heap.size w w3) := B2.out.trans (b3.mono B2.out.size)
    clear b3
    go_wp2_with fail
    go_ret
    exact ⟨rfl, B3.out⟩
  | true =>
    obtain ⟨m, v0, f0, hm⟩ := SM.out rfl
    obtain ⟨⟨rfl, h1, h30, h60, hok⟩, hs0, hz0⟩ := hm
    have HOK := Lib.hid hok
    have HEE : Hid (∀ e ∈ es.map REd.plain, K.OkE m e) := edges_ok hok
    have HZ0 := Lib.hid (And.intro hs0 hz0)
    have C50 := Lib.hid (solve50 (ecap := cap) (HA.out.below B2.out) hok (by omega) (by omega))
    obtain ⟨y0, y1⟩ := H2.out.c
    clear SM hok hs0 hz0
    go_wp2_with fail
    with_reducible refine C50.out.mono ?_
    rintro r w3 ⟨bv, be, v, f, rfl, hs, hv, hf, b3, _, _⟩
    have V3 : Hid (VSt w w3 hb m es.length cap A bv be v f) := ⟨B2.out.trans (b3.mono B2.out.size), H2.out.bel b3, hv, hf⟩
    have HS := Lib.hid hs
    have HSZ : Hid (∀ i, i < m → (v i).2 < K.INF) := fun i hi => by rw [hs.fix.unique HEE.out HZ0.out.1.fix i hi]; exact HZ0.out.2 i hi
    clear b3 hv hs hf y0 y1 C50 H2 B2 HZ0
    obtain ⟨y0, y1⟩ := V3.out.hdr.c
    obtain ⟨W4, hW4⟩ : ∃ W, W = w3.alloc (.cells #[.int .i64 m, .slice none 0 0] 48) := ⟨_, rfl⟩
    obtain ⟨pb, hpb⟩ : ∃ b, b = w3.heap.size := ⟨_, rfl⟩
    have B4 : Below w3.heap.size w3 W4 := by rw [hW4]; exact (Below.refl _ _).alloc (Nat.le_refl _) _
    have V4 : Hid (VSt w W4 hb m es.length cap A bv be v f ∧ HBZ W4 pb m 0 0 none) := ⟨V3.out.bel B4, by show W4.heap[pb]? = _; rw [hW4, hpb]; exact heap_alloc_new w3 _⟩
    have HPB : Hid (w.heap.size ≤ pb) := by show _ ≤ _; rw [hpb]; exact V3.out.below.size
    have HW4 := Lib.hid (And.intro hW4 hpb)
    clear hW4 hpb B4 V3
    go_wp2_with fail
    rw [← HW4.out.1, ← HW4.out.2]
    clear y0 y1 HW4
    go_loopg [6, 7] m (fun gk s6 s7 wr => ∃ (i : Nat) (A6 : Option Addr) (c6 : Nat) (l : List REd), s6 = .slice A6 l.length c6 ∧ s7 = .int .i64 i ∧ i ≤ m ∧ m - i ≤ gk ∧ Hid (VSt w wr hb m es.length cap A bv be v f ∧ HBZ wr pb m 0 0 none ∧ Own wr w.heap.size 60 5 A6 c6 encE l ∧ ChoL es f i l))
    case atStart => exact ⟨0, none, 0, [], rfl, rfl, by omega, by omega, V4.out.1, V4.out.2, Own.nil _ _ _, ⟨by simp, fun j k e h => absurd h (Nat.not_lt_zero j), fun e he => by cases he⟩⟩
    case round =>
      clear V4
      obtain ⟨i, A6, c6, l, rfl, rfl, hi, hk, HR⟩ := hrel
      obtain ⟨y0, y1⟩ := HR.out.1.hdr.c
      by_cases hlt : i < m
      · have hlz : (i : Int) < (m : Int) := by omega
        have x3 : wr.cell? ⟨be, i, none⟩ = some (.int .i64 (f i)) := HR.out.1.edg.cell hlt
        rcases HS.out.node HEE.out hlt with ⟨h2, k, e', h3, h4, h5, h6⟩ | ⟨h2, h3⟩
        · rw [List.getElem?_map] at h4
          obtain ⟨e, he, hee⟩ := Option.map_eq_some_iff.1 h4
          have hkl : k < es.length := (List.getElem?_eq_some_iff.1 he).1
          obtain ⟨eb, eo, rfl, hr⟩ := HA.out.at_ k e he
          rw [h3] at x3
          have HK := Lib.hid (And.intro h3 he)
          have HER : Hid (∀ W, Below w.heap.size w W → W.rangeAt eb (eo + k * 5) [.int .i64 e.head, .slice e.A e.tails.length e.cap, .int .i64 e.cost, .int .i64 e.l0, .int .i64 e.l1]) := fun W hW j u hu => (hW.cell (World.block_lt_of_cell? w _ (hr j u hu))).trans (hr j u hu)
          clear h4 he hee h3 h5 h6 h2 hr
          go_wp2_with fail
          have hlz : (i : Int) < (m : Int) := by omega
          have hkz : (k : Int) < (es.length : Int) := by omega
          have g1 : decide ((es.length : Int) ≤ (k : Int)) = false := decide_eq_false (by omega)
          have hk0 : (0 : Int) ≤ (k : Int) := by omega
          go_quiet (fail)
          have R7 : Hid (VSt w (wr.drewN nq) hb m es.length cap (some ⟨eb, eo, none⟩) bv be v f ∧ HBZ (wr.drewN nq) pb m 0 0 none ∧ Own (wr.drewN nq) w.heap.size 60 5 A6 c6 encE l ∧ ChoL es f i l) := ⟨HR.out.1.bel (below_drewN (Below.refl _ _) nq), HR.out.2.1.bel (below_drewN (Below.refl _ _) nq), HR.out.2.2.1.bel (below_drewN (Below.refl _ _) nq), HR.out.2.2.2⟩
          obtain ⟨W7, hW7⟩ : ∃ W, W = wr.drewN nq := ⟨_, rfl⟩
          have y1 : (wr.drewN nq).cell? ⟨hb, 1, none⟩ = some (.slice (some ⟨eb, eo, none⟩) es.length cap) := y1
          have x3 : (wr.drewN nq).cell? ⟨be, i, none⟩ = some (.int .i64 k) := x3
          rw [← hW7] at R7
          go_wp2_with fail
          rw [← hW7]
          rw [← hW7] at y1 x3
          clear hW7 HR
          have hlz : (i : Int) < (m : Int) := by omega
          have hkz : (k : Int) < (es.length : Int) := by omega
          have hal : Below W7.heap.size W7 (W7.alloc (.cells #[.int .i64 e.head, .slice e.A e.tails.length e.cap, .int .i64 e.cost, .int .i64 e.l0, .int .i64 e.l1] 60)).drew := ((Below.refl _ _).alloc (Nat.le_refl _) _).drew
          obtain ⟨A2, c2, W2, hap, hown, hbel, heff⟩ := append_any (c2 := 1) kindE (l2 := [e]) (R7.out.2.2.1.bel hal) (Nat.le_trans R7.out.1.below.size hal.size) (sb := W7.heap.size) (so := 0) (fun j y hy => by
            have hj : j = 0 := by
              have := (List.getElem?_eq_some_iff.1 hy).1
              simpa using this
            subst hj
            cases hy
            refine ⟨_, _, rfl, ?_⟩
            exact box_range (L := encE e) (heap_alloc_new W7 _) 0 _ (fun j v h => by rw [Nat.zero_add]; exact h)) (by have := R7.out.2.2.2.1; show l.length + 1 ≤ _; omega)
          have hE : Eff (fun k => A6 = some ⟨k, 0, none⟩) W7 W2 := (Eff.of_below hal _).trans heff (fun i h => .inl h)
          have hS : ∀ k, A6 = some ⟨k, 0, none⟩ → w.heap.size ≤ k ∧ ∃ c, W7.heap[k]? = some (.cells c 60 (0, 0)) := fun k hk => R7.out.2.2.1.blk hk
          have R8 : Hid (VSt w W2 hb m es.length cap (some ⟨eb, eo, none⟩) bv be v f ∧ HBZ W2 pb m 0 0 none ∧ Own W2 w.heap.size 60 5 A2 c2 encE (l ++ [e]) ∧ ChoL es f (i + 1) (l ++ [e])) :=
            ⟨R7.out.1.eff hE (by decide) hS, R7.out.2.1.eff hE (by decide) (fun k hk => (hS k hk).2), hown, R7.out.2.2.2.yes HK.out.1 HK.out.2⟩
          have AP : Hid ((Builtin.append_ #[46, 46] 46 #[.slice A6 l.length c6, .slice (some ⟨W7.heap.size, 0, none⟩) 1 1]).run Try.prog (W7.alloc (.cells #[.int .i64 e.head, .slice e.A e.tails.length e.cap, .int .i64 e.cost, .int .i64 e.l0, .int .i64 e.l1] 60)).drew = .ok (.slice A2 (l.length + 1) c2) W2) := hap
          refine cho_r14 (fun _ _ _ _ _ h => h) hlz hkz x3 y1 (HER.out W7 R7.out.1.below) AP ?_
          intro t53 t54 t55 t56 t57 t58 t59 t60 t61 t62 t63
          clear hap hown hbel heff hE hS hal R7
          go_wp2_with fail
          go_roundg (m - (i + 1))
          case measure => omega
          case rel => exact ⟨i + 1, A2, c2, l ++ [e], by rw [List.length_append]; rfl, by go_num, by omega, by omega, R8.out⟩
        · rw [h2] at x3
          have HN := Lib.hid h2
          clear h2 h3
          go_wp2_with fail
          have hlz : (i : Int) < (m : Int) := by omega
          have g1 : decide ((es.length : Int) ≤ -1) = false := decide_eq_false (by omega)
          go_quiet (fail)
          have x3 : (wr.drewN nq).cell? ⟨be, i, none⟩ = some (.int .i64 (-1)) := x3
          go_wp2_with fail
          go_roundg (m - (i + 1))
          case measure => omega
          case rel => exact ⟨i + 1, A6, c6, l, rfl, by go_num, by omega, by omega, HR.out.1.bel (below_drewN (Below.refl _ _) nq), HR.out.2.1.bel (below_drewN (Below.refl _ _) nq), HR.out.2.2.1.bel (below_drewN (Below.refl _ _) nq), HR.out.2.2.2.no HN.out⟩
      · have hlz : ¬ (i : Int) < (m : Int) := by omega
        obtain rfl : m = i := by omega
        obtain ⟨p0, p1⟩ := HR.out.2.1.c
        have p2 : wr.frozen? ⟨pb, 1, none⟩ = false := frozen_blk (show wr.heap[pb]? = _ from HR.out.2.1) 1
        obtain ⟨W5, hW5⟩ : ∃ W, W = wr.setCell ⟨pb, 1, none⟩ (.slice A6 l.length c6) := ⟨_, rfl⟩
        have he5 : Eff (fun k => k = pb) wr W5 := by rw [hW5]; exact eff_setCell wr pb 1 _
        have hp5 : HBZ W5 pb m l.length c6 A6 := by
          show W5.heap[pb]? = _
          rw [hW5]
          exact set_cell (show wr.heap[pb]? = _ from HR.out.2.1) 1 _
        have B5 : Below w.heap.size w W5 := HR.out.1.below.trans (he5.belowB HR.out.1.below.size (fun k hk => by rw [hk]; exact HPB.out))
        have hO5 : Own W5 w.heap.size 60 5 A6 c6 encE l := HR.out.2.2.1.eff he5 (fun k _ _ hA6 hkp => by
          obtain ⟨_, c, h2⟩ := HR.out.2.2.1.blk hA6
          subst hkp
          have h3 : wr.heap[k]? = _ := HR.out.2.1
          rw [h3] at h2
          simp only [Option.some.injEq, Obj.cells.injEq] at h2
          exact absurd h2.2.1 (by decide))
        have hV5 : ValsAt W5 bv m v := by
          obtain ⟨c1, k1, _⟩ := HR.out.1.vals.blk
          exact HR.out.1.vals.eff he5 (ne_of_type k1 (show wr.heap[pb]? = _ from HR.out.2.1) (by decide))
        have CH := HR.out.2.2.2
        have hED : EdsIn W5 A6 l := eds_of (hO5.row kindE) (fun e he => (HA.out.tails e (CH.2.2 e he)).below B5)
        have hokl : ∀ e ∈ l, e.ok m := fun e he => HOK.out e (CH.2.2 e he)
        have C50 := Lib.hid (solve50 (ecap := c6) hED hokl (by omega) (by have := CH.1; omega))
        have hFX : K.Fix (l.map REd.plain) m v := K.chosen_fix HEE.out HS.out HSZ.out (fun j k e hj hf he => by
          rw [List.getElem?_map] at he
          obtain ⟨e0, he0, rfl⟩ := Option.map_eq_some_iff.1 he
          exact List.mem_map.2 ⟨e0, CH.2.1 j k e0 hj hf he0, rfl⟩) (fun e he => by
          obtain ⟨e0, he0, rfl⟩ := List.mem_map.1 he
          exact List.mem_map.2 ⟨e0, CH.2.2 e0 he0, rfl⟩)
        have R5 : Hid (Below w.heap.size w W5 ∧ ValsAt W5 bv m v ∧ K.Fix (l.map REd.plain) m v ∧ ∀ e ∈ l.map REd.plain, K.OkE m e) := ⟨B5, hV5, hFX, edges_ok hokl⟩
        obtain ⟨q0, q1⟩ := hp5.c
        have HW5 := Lib.hid hW5
        clear he5 hp5 B5 hO5 hV5 CH hED hokl hFX hi hk hlt
        have q0 : (wr.setCell ⟨pb, 1, none⟩ (.slice A6 l.length c6)).cell? ⟨pb, 0, none⟩ = some (.int .i64 m) := by rw [← hW5]; exact q0
        have q1 : (wr.setCell ⟨pb, 1, none⟩ (.slice A6 l.length c6)).cell? ⟨pb, 1, none⟩ = some (.slice A6 l.length c6) := by rw [← hW5]; exact q1
        clear hW5
        go_wp2_with fail
        rw [← HW5.out]
        with_reducible refine C50.out.mono ?_
        rintro r w6 ⟨bv', be', v', f', rfl, hs, hv, hf, b6, _, _⟩
        have U : ∀ i, i < m → v' i = v i := fun i hi => hs.fix.unique R5.out.2.2.2 R5.out.2.2.1 i hi
        have B6 : Hid (Below w.heap.size w w6) := R5.out.1.trans (b6.mono R5.out.1.size)
        have S6 : Hid (ValsAt w6 bv m v ∧ ValsAt w6 bv' m v) := ⟨R5.out.2.1.bel b6, hv.congr U⟩
        clear b6 hs hv hf U C50 R5 HR q0 q1 p0 p1 p2 y0 y1 HW5
        go_wp2_with fail
        with_reducible refine (AW.out _).mono ?_
        rintro r w7 ⟨rfl, b7⟩
        have B7 : Hid (Below w.heap.size w w7) := B6.out.trans (b7.mono B6.out.size)
        have S7 : Hid (ValsAt w7 bv m v ∧ ValsAt w7 bv' m v) := ⟨S6.out.1.bel b7, S6.out.2.bel b7⟩
        clear b7 S6
        go_wp2_with fail
        with_reducible refine (same_vals S7.out.1 S7.out.2 (by omega)).mono ?_
        rintro r w8 ⟨rfl, b8⟩
        have B8 : Hid (Below w.heap.size w w8) := B7.out.trans (b8.mono B7.out.size)
        clear b8 S7
        go_wp2_with fail
        go_ret
        exact ⟨rfl, B8.out⟩
end Go.Proofs.Ytepfbhigeghjjaa.Q
