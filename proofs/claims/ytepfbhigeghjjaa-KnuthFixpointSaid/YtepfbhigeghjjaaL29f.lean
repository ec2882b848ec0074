/- KnuthFixpoint: the walk. -/
import Derived.Test.YtepfbhigeghjjaaL29fa
import Derived.Test.YtepfbhigeghjjaaKV
import Derived.Test.YtepfbhigeghjjaaKRd
import Derived.Test.YtepfbhigeghjjaaK4
namespace Go.Proofs.Ytepfbhigeghjjaa.Q
open Go.RowKit Go.Proofs.YtepfbhigeghjjaaW.PrintLast
set_option linter.unusedVariables false
set_option linter.unusedSimpArgs false
set_option maxHeartbeats 8000000 in
set_option maxRecDepth 100000 in
theorem fixpoint_walk (n : Int) (A : Option Addr) (cap : Nat) (es : List REd) (w : World) (hA : EdsIn w A es) : Calls Try.prog 14 #[.agg #[.int .i64 n, .slice A es.length cap]] w (TruePost w) := by
  have AW := Lib.hid awake44
  have HA := Lib.hid hA
  clear hA
  obtain ⟨W1, hW1⟩ : ∃ W, W = w.alloc (.cells #[.int .i64 n, .slice A es.length cap] 48) := ⟨_, rfl⟩
  obtain ⟨hb, hhb⟩ : ∃ b, b = w.heap.size := ⟨_, rfl⟩
  have B1 : Hid (Below w.heap.size w W1) := by rw [hW1]; exact (Below.refl _ _).alloc (Nat.le_refl _) _
  have H1 : Hid (HBZ W1 hb n es.length cap A) := by show W1.heap[hb]? = _; rw [hW1, hhb]; exact heap_alloc_new w _
  have HW1 := Lib.hid (And.intro hW1 hhb)
  have CS := Lib.hid (bounded49 (cap := cap) n es (HA.out.below B1.out))
  clear hW1 hhb
  go_enter Try.func14, Try.ntmps14
  go_wp2_with fail
  rw [← HW1.out.1, ← HW1.out.2]
  with_reducible refine CS.out.mono ?_
  rintro r w2 ⟨b, rfl, hb2, b2⟩
  have B2 : Hid (Below w.heap.size w w2) := B1.out.trans (b2.mono B1.out.size)
  have H2 := Lib.hid (H1.out.bel b2)
  have SM := Lib.hid hb2
  clear b2 hb2 H1 B1 HW1 CS
  cases b with
  | false =>
    go_wp2_with fail
    with_reducible refine (AW.out _).mono ?_
    rintro r w3 ⟨rfl, b3⟩
    have B3 : Hid (Below w.heap.size w w3) := B2.out.trans (b3.mono B2.out.size)
    clear b3
    go_wp2_with fail
    go_ret
    exact ⟨rfl, B3.out⟩
  | true =>
    obtain ⟨m, v0, f0, hm⟩ := SM.out rfl
    obtain ⟨⟨rfl, h1, h30, h60, hok⟩, _, _⟩ := hm
    have HOK := Lib.hid hok
    have HEE : Hid (∀ e ∈ es.map REd.plain, K.OkE m e) := edges_ok hok
    have C50 := Lib.hid (solve50 (ecap := cap) (HA.out.below B2.out) hok (by omega) (by omega))
    obtain ⟨y0, y1⟩ := H2.out.c
    clear SM hok
    go_wp2_with fail
    with_reducible refine C50.out.mono ?_
    rintro r w3 ⟨bv, be, v, f, rfl, hs, hv, hf, b3, _, _⟩
    have V3 : Hid (VSt w w3 hb m es.length cap A bv be v f) := ⟨B2.out.trans (b3.mono B2.out.size), H2.out.bel b3, hv, hf⟩
    have HS := Lib.hid hs
    clear b3 hv hs hf y0 y1 C50 H2 B2
    obtain ⟨y0, y1⟩ := V3.out.hdr.c
    go_wp2_with fail
    clear y0 y1
    go_loopg [5] es.length (fun gk s5 wr => ∃ k : Nat, s5 = .int .i64 k ∧ k ≤ es.length ∧ es.length - k ≤ gk ∧ Hid (VSt w wr hb m es.length cap A bv be v f))
    case atStart => exact ⟨0, rfl, by omega, by omega, V3.out⟩
    case round =>
      clear V3
      obtain ⟨k, rfl, hi, hk, HR⟩ := hrel
      obtain ⟨y0, y1⟩ := HR.out.hdr.c
      by_cases hlt : k < es.length
      · have hlz : (k : Int) < (es.length : Int) := by omega
        obtain ⟨e, he⟩ : ∃ e, es[k]? = some e := ⟨_, List.getElem?_eq_getElem hlt⟩
        have hok := HOK.out e (List.mem_of_getElem? he)
        have hti := HA.out.tails e (List.mem_of_getElem? he)
        obtain ⟨b, o, rfl, z0, z1, z2, z3, z4⟩ := HA.out.c HR.out.below he
        have HEK : Hid ((es.map REd.plain)[k]? = some e.plain) := by show _ = _; rw [List.getElem?_map, he]; rfl
        obtain ⟨hn', hhn⟩ : ∃ x, e.head.toNat = x := ⟨_, rfl⟩
        have hhe : e.head = (hn' : Int) := by rw [← hhn, Int.toNat_of_nonneg hok.1]
        have hhl : hn' < m := by have := hok.2.1; omega
        have hhz : (hn' : Int) < (m : Int) := by omega
        have hph : e.plain.head = hn' := hhn
        obtain ⟨c1, hc1⟩ : ∃ x, (K.comb e.plain v).1 = x := ⟨_, rfl⟩
        obtain ⟨c2, hc2⟩ : ∃ x, (K.comb e.plain v).2 = x := ⟨_, rfl⟩
        have hcomb : K.comb e.plain v = (c1, c2) := Prod.ext hc1 hc2
        obtain ⟨q1, hq1⟩ : ∃ x, (v hn').1 = x := ⟨_, rfl⟩
        obtain ⟨q2, hq2⟩ : ∃ x, (v hn').2 = x := ⟨_, rfl⟩
        have hvv : v hn' = (q1, q2) := Prod.ext hq1 hq2
        rw [hhe] at z0
        obtain ⟨W2, hW2⟩ : ∃ W, W = wr.alloc (.cells #[.int .i64 hn', .slice e.A e.tails.length e.cap, .int .i64 e.cost, .int .i64 e.l0, .int .i64 e.l1] 60) := ⟨_, rfl⟩
        obtain ⟨xb, hxb⟩ : ∃ b, b = wr.heap.size := ⟨_, rfl⟩
        have B2 : Below wr.heap.size wr W2 := by rw [hW2]; exact (Below.refl _ _).alloc (Nat.le_refl _) _
        have X2 : Hid (W2.heap[xb]? = some (.cells #[.int .i64 hn', .slice e.A e.tails.length e.cap, .int .i64 e.cost, .int .i64 e.l0, .int .i64 e.l1] 60 (0, 0))) := by show _ = _; rw [hW2, hxb]; exact heap_alloc_new wr _
        have R2 := HR.out.bel B2
        obtain ⟨l, hct, hc48⟩ := calls_tc R2.vals e ((hti.below HR.out.below).below B2) hok HS.out.fix.ok hcomb
        rw [hhe] at hct
        have HED := HS.out.edge HEE.out HEK.out
        rw [hph, hcomb, hvv] at HED
        have HD : Hid ((¬ K.ltV (c1, c2) (q1, q2)) ∧ ((c1, c2) = (q1, q2) → c1 < 1099511627776 → 0 ≤ f hn' ∧ f hn' ≤ k)) := HED
        have CT := Lib.hid hct
        have C48 := Lib.hid hc48
        have RR2 := Lib.hid R2
        have HV := Lib.hid hvv
        have HW2 := Lib.hid (And.intro hW2 hxb)
        clear HR he hok hti hhn hhe hph hc1 hc2 hcomb hq1 hq2 hvv hW2 hxb B2 R2 hct hc48 HED
        go_wp2_with fail
        rw [← HW2.out.1, ← HW2.out.2]
        clear z0 z1 z2 z3 z4 y0 y1
        have XR : W2.rangeAt xb 0 [.int .i64 hn', .slice e.A e.tails.length e.cap, .int .i64 e.cost, .int .i64 e.l0, .int .i64 e.l1] := box_range (L := [.int .i64 hn', .slice e.A e.tails.length e.cap, .int .i64 e.cost, .int .i64 e.l0, .int .i64 e.l1]) X2.out 0 _ (fun j v h => by rw [Nat.zero_add]; exact h)
        refine fix_r10 (fun _ _ _ _ _ h => h) XR (XR 2 _ rfl) CT C48 ?_
        rintro yb w8 b8 y8 g8
        intro t43 t44 t45 t46 t47 t48
        clear XR CT C48
        have R8 := Lib.hid (RR2.out.bel b8)
        have X8 := Lib.hid (below_heap b8 X2.out)
        have Y8 := Lib.hid y8
        clear b8 y8 g8 X2 RR2 HW2
        go_wp2_with fail
        have hL : decide (c1 < q1 ∨ c1 = q1 ∧ c2 < q2) = false := decide_eq_false HD.out.1
        have YR : w8.rangeAt yb 0 [.int .i64 c1, .int .i64 c2] := box_range (L := [.int .i64 c1, .int .i64 c2]) Y8.out 0 _ (fun j v h => by rw [Nat.zero_add]; exact h)
        have X0 : w8.cell? ⟨xb, 0, none⟩ = some (.int .i64 hn') := by simp only [World.cell?, X8.out]; rfl
        have VR : w8.rangeAt bv (hn' * 2) [.int .i64 q1, .int .i64 q2] := by have := R8.out.vals.at_ hn' hhl; rw [HV.out] at this; exact this
        have F0 : w8.cell? ⟨be, hn', none⟩ = some (.int .i64 (f hn')) := R8.out.edg.cell hhl
        by_cases g1 : c1 = q1
        · by_cases g2 : c2 = q2
          · have HD2 := HD.out.2 (by rw [g1, g2])
            subst g1
            subst g2
            by_cases hf : c1 < 1099511627776
            · have hff := HD2 hf
              refine fix_r11e (k := k) (fun _ _ _ _ _ h => h) (by omega) hL (decide_eq_true hf) (decide_eq_false (by omega)) (decide_eq_false (by omega)) YR X0 VR (YR 0 _ rfl) F0 ?_
              rintro w9 b9
              intro t49 t50 t51 t52 t53 t54 t55 t56 t57 t58 t59 t60 t61 t62 t63 t64 t65 t66 t67 t68 t69 t70 t71 t72 t73 t74 t75 t76 t77 t78 t79 t80 t81 t82 t83 t84 t85
              have R9 := Lib.hid (R8.out.bel b9)
              clear b9 YR X0 VR F0 hL
              go_wp2_with fail
              go_roundg (es.length - (k + 1))
              case measure => omega
              case rel => exact ⟨k + 1, by go_num, by omega, by omega, R9.out⟩
            · refine fix_r11i (k := k) (fun _ _ _ _ _ h => h) (by omega) hL (decide_eq_false hf) YR X0 VR (YR 0 _ rfl) F0 ?_
              rintro w9 b9
              intro t49 t50 t51 t52 t53 t54 t55 t56 t57 t58 t59 t60 t61 t62 t63 t64 t65 t66 t67 t68 t69 t70 t71 t72 t73 t74 t75 t76 t77 t78 t79 t80 t81 t82 t83 t84 t85
              have R9 := Lib.hid (R8.out.bel b9)
              clear b9 YR X0 VR F0 hL
              go_wp2_with fail
              go_roundg (es.length - (k + 1))
              case measure => omega
              case rel => exact ⟨k + 1, by go_num, by omega, by omega, R9.out⟩
          · refine fix_r11m (k := k) (fun _ _ _ _ _ h => h) (by omega) hL (beq_iff_eq.2 g1) (beq_eq_false_iff_ne.2 g2) YR X0 VR (YR 0 _ rfl) F0 ?_
            rintro w9 b9
            intro t49 t50 t51 t52 t53 t54 t55 t56 t57 t58 t59 t60 t61 t62 t63 t64 t65 t66 t67 t68 t69 t70 t71 t72 t73 t74 t75 t76 t77 t78 t79 t80 t81 t82 t83 t84 t85
            have R9 := Lib.hid (R8.out.bel b9)
            clear b9 YR X0 VR F0 hL
            go_wp2_with fail
            go_roundg (es.length - (k + 1))
            case measure => omega
            case rel => exact ⟨k + 1, by go_num, by omega, by omega, R9.out⟩
        · refine fix_r11n (k := k) (fun _ _ _ _ _ h => h) (by omega) hL (beq_eq_false_iff_ne.2 g1) YR X0 VR (YR 0 _ rfl) F0 ?_
          rintro w9 b9
          intro t49 t50 t51 t52 t53 t54 t55 t56 t57 t58 t59 t60 t61 t62 t63 t64 t65 t66 t67 t68 t69 t70 t71 t72 t73 t74 t75 t76 t77 t78 t79 t80 t81 t82 t83 t84 t85
          have R9 := Lib.hid (R8.out.bel b9)
          clear b9 YR X0 VR F0 hL
          go_wp2_with fail
          go_roundg (es.length - (k + 1))
          case measure => omega
          case rel => exact ⟨k + 1, by go_num, by omega, by omega, R9.out⟩
      · have hlz : ¬ (k : Int) < (es.length : Int) := by omega
        obtain rfl : es.length = k := by omega
        have C55 := Lib.hid (derivable55 (ecap := cap) (HA.out.below HR.out.below) HOK.out (by omega) (by omega))
        go_wp2_with fail
        with_reducible refine C55.out.mono ?_
        rintro r w4 ⟨bd, d, rfl, hcl, hrow, b4, _⟩
        have V4 : Hid (VSt w w4 hb m es.length cap A bv be v f ∧ w4.rowIs bd 4 m (boolRow d)) := ⟨HR.out.bel b4, hrow⟩
        have HCL := Lib.hid hcl
        clear HR C55 b4 hrow hcl y0 y1 hi hk hlt hlz
        go_wp2_with fail
        go_loopg [9] m (fun gk s9 wr => ∃ i : Nat, s9 = .int .i64 i ∧ i ≤ m ∧ m - i ≤ gk ∧ Hid (VSt w wr hb m es.length cap A bv be v f ∧ wr.rowIs bd 4 m (boolRow d)))
        case atStart => exact ⟨0, rfl, by omega, by omega, V4.out⟩
        case round =>
          clear V4
          obtain ⟨i, rfl, hi, hk, HR⟩ := hrel
          obtain ⟨y0, y1⟩ := HR.out.1.hdr.c
          by_cases hlt : i < m
          · have hlz : (i : Int) < (m : Int) := by omega
            obtain ⟨q1, hq1⟩ : ∃ x, (v i).1 = x := ⟨_, rfl⟩
            obtain ⟨q2, hq2⟩ : ∃ x, (v i).2 = x := ⟨_, rfl⟩
            obtain ⟨fi, hfi⟩ : ∃ x, f i = x := ⟨_, rfl⟩
            obtain ⟨x1, x2⟩ := HR.out.1.v1 hlt (Prod.ext hq1 hq2)
            have x3 : wr.cell? ⟨be, i, none⟩ = some (.int .i64 fi) := by rw [← hfi]; exact HR.out.1.edg.cell hlt
            have x4 : wr.cell? ⟨bd, i, none⟩ = some (.bool (d i)) := HR.out.2.cell hlt
            rcases HS.out.node HEE.out hlt with ⟨h2, k, e', h3, h4, h5, h6⟩ | ⟨h2, h3⟩
            · have hd : d i = true := h6.closed HCL.out
              rw [List.getElem?_map] at h4
              obtain ⟨e, he, hee⟩ := Option.map_eq_some_iff.1 h4
              have hok := HOK.out e (List.mem_of_getElem? he)
              obtain ⟨b, o, hAe, z0, z1, z2, z3, z4⟩ := HA.out.c HR.out.1.below he
              have hkl : k < es.length := (List.getElem?_eq_some_iff.1 he).1
              have hhe : e.head = (i : Int) := by
                have : e.plain.head = i := by rw [hee]; exact h5
                have h7 : e.head.toNat = i := this
                rw [← h7, Int.toNat_of_nonneg hok.1]
              rw [hhe] at z0
              rw [hd] at x4
              obtain rfl : fi = (k : Int) := by rw [← hfi]; exact h3
              have hq : q1 < 1099511627776 := by rw [← hq1]; exact h2
              rw [hAe] at y1
              clear hd h4 he hee hok hhe hfi h3 h5 h6 h2 hq1 hq2 hAe z1 z2 z3 z4
              go_wp2_with fail
              have hlz : (i : Int) < (m : Int) := by omega
              have hkz : (k : Int) < (es.length : Int) := by omega
              have g1 : decide ((0 : Int) ≤ (k : Int)) = true := decide_eq_true (by omega)
              have g2 : decide (q1 < 1099511627776) = true := decide_eq_true hq
              have g3 : decide ((es.length : Int) ≤ (k : Int)) = false := decide_eq_false (by omega)
              have g4 : decide ((k : Int) < 0) = false := decide_eq_false (by omega)
              go_quiet (fail)
              go_wp2_with fail
              go_roundg (m - (i + 1))
              case measure => omega
              case rel => exact ⟨i + 1, by go_num, by omega, by omega, HR.out.1.bel (below_drewN (Below.refl _ _) nq), row_below HR.out.2 (below_drewN (Below.refl _ _) nq)⟩
            · rw [h2] at hfi
              subst hfi
              rw [h3] at hq1 hq2
              obtain rfl : q1 = 1099511627776 := hq1.symm
              obtain rfl : q2 = 0 := hq2.symm
              clear h2 h3 hq1 hq2 x4
              go_wp2_with fail
              have hlz : (i : Int) < (m : Int) := by omega
              have g3 : decide ((es.length : Int) ≤ -1) = false := decide_eq_false (by omega)
              go_quiet (fail)
              go_wp2_with fail
              go_roundg (m - (i + 1))
              case measure => omega
              case rel => exact ⟨i + 1, by go_num, by omega, by omega, HR.out.1.bel (below_drewN (Below.refl _ _) nq), row_below HR.out.2 (below_drewN (Below.refl _ _) nq)⟩
          · have hlz : ¬ (i : Int) < (m : Int) := by omega
            obtain rfl : m = i := by omega
            go_wp2_with fail
            with_reducible refine (AW.out _).mono ?_
            rintro r w5 ⟨rfl, b5⟩
            have B5 : Hid (Below w.heap.size w w5) := HR.out.1.below.trans (b5.mono HR.out.1.below.size)
            clear b5
            go_wp2_with fail
            go_ret
            exact ⟨rfl, B5.out⟩
end Go.Proofs.Ytepfbhigeghjjaa.Q
