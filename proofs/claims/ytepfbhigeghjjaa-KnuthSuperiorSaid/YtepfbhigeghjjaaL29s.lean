/- KnuthSuperior: the walk. -/
import Derived.Test.YtepfbhigeghjjaaL29sa
import Derived.Test.YtepfbhigeghjjaaL29c
import Derived.Test.YtepfbhigeghjjaaL29v
import Derived.Test.YtepfbhigeghjjaaKP
import Derived.Test.YtepfbhigeghjjaaK3
namespace Go.Proofs.Ytepfbhigeghjjaa.Q
open Go.RowKit Go.Proofs.YtepfbhigeghjjaaW.PrintLast
set_option linter.unusedVariables false
set_option linter.unusedSimpArgs false

/-- What the loop keeps. -/
def SI (w wr : World) (bb xb : Nat) (b1 b2 x1 x2 : Int) : Prop := Below w.heap.size w wr ∧ wr.rangeAt bb 0 [.int .i64 b1, .int .i64 b2] ∧ wr.rangeAt xb 0 [.int .i64 x1, .int .i64 x2]
theorem range_bel {wr W : World} {b o : Nat} {cs : List Value} (h : wr.rangeAt b o cs) (hb : Below wr.heap.size wr W) : W.rangeAt b o cs := rangeAt_eff h (Eff.of_below hb (fun _ => False)) (fun h => h)
theorem SI.bel {w wr W : World} {bb xb : Nat} {b1 b2 x1 x2 : Int} (h : SI w wr bb xb b1 b2 x1 x2) (hb : Below wr.heap.size wr W) : SI w W bb xb b1 b2 x1 x2 :=
  ⟨h.1.trans (hb.mono h.1.size), range_bel h.2.1 hb, range_bel h.2.2 hb⟩
theorem SI.bel9 {w wr W : World} {bb xb g : Nat} {b1 b2 x1 x2 : Int} (h9 : SI w W bb xb b1 b2 x1 x2) (hs : w.heap.size ≤ wr.heap.size) (hb : Below wr.heap.size wr W) (hg : wr.heap.size ≤ g) (h : SI w wr bb xb b1 b2 x1 x2) (p q : Nat) (u v : Value) : SI w ((W.setCell ⟨g, p, none⟩ u).setCell ⟨g, q, none⟩ v) bb xb b1 b2 x1 x2 :=
  h.bel ((hb.setCell (p := ⟨g, p, none⟩) hg u).setCell (p := ⟨g, q, none⟩) hg v)
theorem own_setV {W : World} {B g c : Nat} {l : List K.V} (h : Own W B 54 2 (some ⟨g, 0, none⟩) c encV l) {i : Nat} (hi : i < l.length) (a b : Int) : Own ((W.setCell ⟨g, i * 2, none⟩ (.int .i64 a)).setCell ⟨g, i * 2 + 1, none⟩ (.int .i64 b)) B 54 2 (some ⟨g, 0, none⟩) c encV (l.set i (a, b)) := by
  have h1 := (World.ownsRow.stored (World.ownsRow.stored h (i * 2) (.int .i64 a)).1 (i * 2 + 1) (.int .i64 b)).1
  rw [flatV_set l i a b hi] at h1
  unfold Own
  rw [List.length_set]
  exact h1
set_option maxHeartbeats 8000000 in
set_option maxRecDepth 100000 in
theorem superior_walk (cost : Int) (A : Option Addr) (l : List K.V) (cap : Nat) (b1 b2 : Int) (w : World) (hA : ValsIn w A l) :
    Calls Try.prog 12 #[.int .i64 cost, .slice A l.length cap, .agg #[.int .i64 b1, .int .i64 b2]] w (TruePost w) := by
  have AW := Lib.hid awake44
  have HA := Lib.hid hA
  clear hA
  by_cases h1 : cost < 0
  · go_enter Try.func12, Try.ntmps12
    go_wp2_with fail
    with_reducible refine (AW.out _).mono ?_
    rintro r w1 ⟨rfl, b1⟩
    have B1 : Hid (Below w.heap.size w w1) := ((Below.refl _ _).alloc (Nat.le_refl _) _).trans (b1.mono (by simp))
    clear b1
    go_wp2_with fail
    go_ret
    exact ⟨rfl, B1.out⟩
  by_cases h2 : 1099511627776 < cost
  · go_enter Try.func12, Try.ntmps12
    go_wp2_with fail
    with_reducible refine (AW.out _).mono ?_
    rintro r w1 ⟨rfl, b1⟩
    have B1 : Hid (Below w.heap.size w w1) := ((Below.refl _ _).alloc (Nat.le_refl _) _).trans (b1.mono (by simp))
    clear b1
    go_wp2_with fail
    go_ret
    exact ⟨rfl, B1.out⟩
  by_cases h3 : (20 : Int) < (l.length : Int)
  · go_enter Try.func12, Try.ntmps12
    go_wp2_with fail
    with_reducible refine (AW.out _).mono ?_
    rintro r w1 ⟨rfl, b1⟩
    have B1 : Hid (Below w.heap.size w w1) := ((Below.refl _ _).alloc (Nat.le_refl _) _).trans (b1.mono (by simp))
    clear b1
    go_wp2_with fail
    go_ret
    exact ⟨rfl, B1.out⟩
  by_cases h4 : l.length = 0
  · go_enter Try.func12, Try.ntmps12
    go_wp2_with fail
    with_reducible refine (AW.out _).mono ?_
    rintro r w1 ⟨rfl, b1⟩
    have B1 : Hid (Below w.heap.size w w1) := ((Below.refl _ _).alloc (Nat.le_refl _) _).trans (b1.mono (by simp))
    clear b1
    go_wp2_with fail
    go_ret
    exact ⟨rfl, B1.out⟩
  have hpos : 0 < l.length := by omega
  have h5 : ((l.length : Int) == 0) = false := beq_eq_false_iff_ne.2 (by omega)
  have HC : Hid (0 ≤ cost ∧ cost ≤ K.INF) := ⟨Int.not_lt.1 h1, Int.not_lt.1 h2⟩
  have hl : l.length ≤ 20 := by omega
  obtain ⟨W1, hW1⟩ : ∃ W, W = w.alloc (.cells #[.int .i64 b1, .int .i64 b2] 54) := ⟨_, rfl⟩
  obtain ⟨bb, hbb⟩ : ∃ b, b = w.heap.size := ⟨_, rfl⟩
  have B1 : Below w.heap.size w W1 := by rw [hW1]; exact (Below.refl _ _).alloc (Nat.le_refl _) _
  have X1 : W1.rangeAt bb 0 [.int .i64 b1, .int .i64 b2] := by
    rw [hW1, hbb]
    exact box_range (L := [.int .i64 b1, .int .i64 b2]) (heap_alloc_new w _) 0 _ (fun j v h => by rw [Nat.zero_add]; exact h)
  obtain ⟨A', c', W2, hap, hown, hb2⟩ := append_new (W := W1) (c2 := cap) kindV [(b1, b2)] (show RowIn W1 A 2 encV l from HA.out.below B1) hpos (by show 1 + l.length ≤ 1000; omega)
  rw [hW1] at hap
  have AP : Hid ((Builtin.append_ #[62, 62] 62 #[.slice (some ⟨(w.alloc (.cells #[.int .i64 b1, .int .i64 b2] 54)).heap.size, 0, none⟩) 1 1, .slice A l.length cap]).run Try.prog ((w.alloc (.cells #[.int .i64 b1, .int .i64 b2] 54)).alloc (.cells #[.int .i64 b1, .int .i64 b2] 54)) = .ok (.slice A' (1 + l.length) c') W2) := hap
  rw [show (w.alloc (.cells #[.int .i64 b1, .int .i64 b2] 54)).heap.size = w.heap.size + 1 by simp] at AP
  have B2 : Hid (Below w.heap.size w W2) := B1.trans (hb2.mono B1.size)
  have X2 := Lib.hid (range_bel X1 hb2)
  have CO := Lib.hid (ordinary46 (cap := c') ([(b1, b2)] ++ l) (hown.row kindV) (by simp; omega))
  rw [show ([(b1, b2)] ++ l).length = 1 + l.length by simp; omega] at CO
  have HBB := Lib.hid hbb
  clear hW1 hap hown hb2 hbb B1 X1
  go_enter Try.func12, Try.ntmps12
  go_wp2_with (first | (refine wpL_g (some 30) (by rfl) rfl (exec_append rfl (by rfl) (by rfl) AP.out) ?_))
  rw [← HBB.out]
  with_reducible refine CO.out.mono ?_
  rintro r w3 ⟨b, rfl, hbo, b3⟩
  have B3 : Hid (Below w.heap.size w w3) := B2.out.trans (b3.mono B2.out.size)
  have X3 := Lib.hid (range_bel X2.out b3)
  clear b3 CO AP
  cases b with
  | false =>
    clear hbo
    go_wp2_with fail
    with_reducible refine (AW.out _).mono ?_
    rintro r w4 ⟨rfl, b4⟩
    have B4 : Hid (Below w.heap.size w w4) := B3.out.trans (b4.mono B3.out.size)
    clear b4
    go_wp2_with fail
    go_ret
    exact ⟨rfl, B4.out⟩
  | true =>
    have hall := hbo.1 rfl
    have HL : Hid (K.OkV (b1, b2) ∧ ∀ x ∈ l, K.OkV x) := ⟨hall _ (by simp), fun x hx => hall x (by simp [hx])⟩
    obtain ⟨x1, hx1⟩ : ∃ x, (K.combV cost l).1 = x := ⟨_, rfl⟩
    obtain ⟨x2, hx2⟩ : ∃ x, (K.combV cost l).2 = x := ⟨_, rfl⟩
    have hE : encV (K.combV cost l) = [.int .i64 x1, .int .i64 x2] := by unfold encV; rw [hx1, hx2]
    have HX : Hid (K.combV cost l = (x1, x2)) := Prod.ext hx1 hx2
    have C47 := combine47 (cap := cap) cost l (HA.out.below B3.out) HC.out.1 HC.out.2 HL.out.2 (by omega)
    rw [hE] at C47
    have CC : Hid (Calls Try.prog 47 #[.int .i64 cost, .slice A l.length cap] w3 fun r w' => r = .returned (.agg #[.int .i64 x1, .int .i64 x2]) ∧ Below w3.heap.size w3 w') := C47
    clear hbo hall hx1 hx2 hE C47
    go_wp2_with fail
    with_reducible refine CC.out.mono ?_
    rintro r w4 ⟨rfl, b4⟩
    have B4 : Hid (Below w.heap.size w w4) := B3.out.trans (b4.mono B3.out.size)
    have X4 := Lib.hid (range_bel X3.out b4)
    obtain ⟨W5, hW5⟩ : ∃ W, W = w4.alloc (.cells #[.int .i64 x1, .int .i64 x2] 54) := ⟨_, rfl⟩
    obtain ⟨xb, hxb⟩ : ∃ b, b = w4.heap.size := ⟨_, rfl⟩
    have B5 : Below w4.heap.size w4 W5 := by rw [hW5]; exact (Below.refl _ _).alloc (Nat.le_refl _) _
    have R5 : Hid (SI w W5 bb xb b1 b2 x1 x2) := ⟨B4.out.trans (B5.mono B4.out.size), range_bel X4.out B5, by
      rw [hW5, hxb]
      exact box_range (L := [.int .i64 x1, .int .i64 x2]) (heap_alloc_new w4 _) 0 _ (fun j v h => by rw [Nat.zero_add]; exact h)⟩
    have HW5 := Lib.hid (And.intro hW5 hxb)
    clear b4 hW5 hxb B5 CC B4 X4 B3 X3 B2 X2 HBB
    go_wp2_with fail
    rw [← HW5.out.1, ← HW5.out.2]
    clear HW5
    go_loopg [8] l.length (fun gk s8 wr => ∃ i : Nat, s8 = .int .i64 i ∧ i ≤ l.length ∧ l.length - i ≤ gk ∧ Hid (SI w wr bb xb b1 b2 x1 x2))
    case atStart => exact ⟨0, rfl, by omega, by omega, R5.out⟩
    case round =>
      clear R5
      obtain ⟨i, rfl, hi, hk, HR⟩ := hrel
      by_cases hlt : i < l.length
      · have hlz : (i : Int) < (l.length : Int) := by omega
        obtain ⟨⟨a1, a2⟩, hy⟩ : ∃ y, l[i]? = some y := ⟨_, List.getElem?_eq_getElem hlt⟩
        obtain ⟨lb, lo, rfl, hlr⟩ := HA.out i _ hy
        have HLR : Hid (w.rangeAt lb (lo + i * 2) [.int .i64 a1, .int .i64 a2]) := hlr
        have HY := Lib.hid hy
        have R6 := Lib.hid HR.out
        clear hlr HR hy
        go_wp2_with fail
        have hlz : (i : Int) < (l.length : Int) := by omega
        have c1 : wr.cell? ⟨xb, 0, none⟩ = some (.int .i64 x1) := R6.out.2.2 0 _ rfl
        have c2 : wr.cell? ⟨xb, 1, none⟩ = some (.int .i64 x2) := R6.out.2.2 1 _ rfl
        by_cases g1 : x1 < 1099511627776
        · by_cases g2 : x2 < 1099511627776
          · have hsup := K.combV_super HC.out.1 HC.out.2 HL.out.2 (by rw [HX.out]; exact g1) (a1, a2) (List.mem_of_getElem? HY.out)
            have hltv := hsup.2.2 (by rw [HX.out]; exact g2)
            rw [HX.out] at hltv
            have hL : decide (a1 < x1 ∨ a1 = x1 ∧ a2 < x2) = true := decide_eq_true hltv
            have LR : wr.rangeAt lb (lo + i * 2) [.int .i64 a1, .int .i64 a2] := fun j u hu => (R6.out.1.cell (World.block_lt_of_cell? w _ (HLR.out j u hu))).trans (HLR.out j u hu)
            refine sup_r7 (fun _ _ _ _ _ h => h) hlz hL (decide_eq_true g1) (decide_eq_true g2) R6.out.2.2 LR ?_
            rintro w7 b7
            intro t44 t45 t46 t47 t48 t49 t50 t51 t52 t53 t54 t55 t56 t57 t58 t59
            have R7 := Lib.hid (R6.out.bel b7)
            clear b7 hL LR hltv hsup g1 g2 c1 c2 R6
            obtain ⟨A', c', W9, hap, hown, hb9⟩ := append_new (W := w7) (c2 := cap) kindV ([] : List K.V) (show RowIn (w7) (some ⟨lb, lo, none⟩) 2 encV l from HA.out.below R7.out.1) hpos (by show 0 + l.length ≤ 1000; omega)
            have AP : Hid ((Builtin.append_ #[62, 62] 62 #[.slice (some ⟨(w7).heap.size, 0, none⟩) 0 0, .slice (some ⟨lb, lo, none⟩) l.length cap]).run Try.prog ((w7).alloc (.cells #[] 54)) = .ok (.slice A' (0 + l.length) c') W9) := hap
            obtain ⟨g, rfl, hg0, hg1, hfz, hrow⟩ := hown.at_ kindV hpos
            have OW := Lib.hid hown
            have R9 := Lib.hid (R7.out.bel hb9)
            have v0 : W9.cell? ⟨g, i * 2, none⟩ = some (.int .i64 a1) := hrow i _ HY.out 0 _ rfl
            have v1 : W9.cell? ⟨g, i * 2 + 1, none⟩ = some (.int .i64 a2) := hrow i _ HY.out 1 _ rfl
            have v2 : W9.frozen? ⟨g, i * 2, none⟩ = false := hfz _
            have v3 : W9.frozen? ⟨g, i * 2 + 1, none⟩ = false := hfz _
            have v4 : W9.cell? ⟨bb, 0, none⟩ = some (.int .i64 b1) := R9.out.2.1 0 _ rfl
            have v5 : W9.cell? ⟨bb, 1, none⟩ = some (.int .i64 b2) := R9.out.2.1 1 _ rfl
            obtain ⟨W10, hW10⟩ : ∃ W, W = (W9.setCell ⟨g, i * 2, none⟩ (.int .i64 b1)).setCell ⟨g, i * 2 + 1, none⟩ (.int .i64 b2) := ⟨_, rfl⟩
            have R10 : Hid (SI w W10 bb xb b1 b2 x1 x2) := by rw [hW10]; exact R9.out.bel9 (R7.out.1.size) hb9 hg0 R7.out _ _ _ _
            have V10 : Hid (ValsIn W10 (some ⟨g, 0, none⟩) (l.set i (b1, b2))) := by rw [hW10]; exact (own_setV OW.out hlt b1 b2).row kindV
            have HW10 := Lib.hid hW10
            clear hap hown hg0 hg1 hfz hrow hb9 hW10
            rw [Nat.zero_add] at AP
            go_wp2_with (first | (refine wpL_v (some 63) rfl rfl (exec_append rfl (by rfl) (by rfl) AP.out) ?_))
            rw [← HW10.out]
            clear v0 v1 v2 v3 v4 v5
            have hlz : (i : Int) < (l.length : Int) := by omega
            have LR : W10.rangeAt lb (lo + i * 2) [.int .i64 a1, .int .i64 a2] := fun j u hu => (R10.out.1.cell (World.block_lt_of_cell? w _ (HLR.out j u hu))).trans (HLR.out j u hu)
            obtain ⟨L, hL⟩ : ∃ x, decide (a1 < b1 ∨ a1 = b1 ∧ a2 < b2) = x := ⟨_, rfl⟩
            cases L with
            | true =>
              refine sup_r11y (fun _ _ _ _ _ h => h) hlz hL LR R10.out.2.1 R10.out.2.2 ?_
              rintro w11 b11
              intro t68 t69 t70 t71 t72 t73 t74 t75 t76 t77 t78 t79 t80
              have R11 := Lib.hid (R10.out.bel b11)
              clear b11 hL LR
              go_wp2_with fail
              go_roundg (l.length - (i + 1))
              case measure => omega
              case rel => exact ⟨i + 1, by go_num, by omega, by omega, R11.out⟩
            | false =>
              obtain ⟨z1, hz1⟩ : ∃ x, (K.combV cost (l.set i (b1, b2))).1 = x := ⟨_, rfl⟩
              obtain ⟨z2, hz2⟩ : ∃ x, (K.combV cost (l.set i (b1, b2))).2 = x := ⟨_, rfl⟩
              have hE : encV (K.combV cost (l.set i (b1, b2))) = [.int .i64 z1, .int .i64 z2] := by unfold encV; rw [hz1, hz2]
              have hle := K.combV_set (cost := cost) (i := i) HC.out.2 HL.out.2 HL.out.1 HY.out (show K.leV (b1, b2) (a1, a2) from of_decide_eq_false hL)
              have hZ : decide (x1 < z1 ∨ x1 = z1 ∧ x2 < z2) = false := decide_eq_false (by
                rw [show K.combV cost (l.set i (b1, b2)) = (z1, z2) from Prod.ext hz1 hz2, HX.out] at hle
                exact hle)
              have C47 : Hid (∀ W : World, Below W10.heap.size W10 W → Calls Try.prog 47 #[.int .i64 cost, .slice (some ⟨g, 0, none⟩) l.length c'] W fun r w' => r = .returned (.agg #[.int .i64 z1, .int .i64 z2]) ∧ Below W.heap.size W w') := fun W hW => by
                have := combine47 (cap := c') cost _ (V10.out.below hW) HC.out.1 HC.out.2 (fun x hx => by
                  rcases List.mem_or_eq_of_mem_set hx with hx | rfl
                  · exact HL.out.2 x hx
                  · exact HL.out.1) (by rw [List.length_set]; omega)
                rw [hE, List.length_set] at this
                exact this
              refine sup_r11n (fun _ _ _ _ _ h => h) hlz hL hZ C47 LR R10.out.2.1 R10.out.2.2 ?_
              rintro w11 b11
              intro t68 t69 t70 t71 t72 t73 t74 t75 t76 t77 t78 t79 t80
              have R11 := Lib.hid (R10.out.bel b11)
              clear b11 hL LR hZ hle hE hz1 hz2
              go_wp2_with fail
              go_roundg (l.length - (i + 1))
              case measure => omega
              case rel => exact ⟨i + 1, by go_num, by omega, by omega, R11.out⟩
          · have g2' : decide (x2 < 1099511627776) = false := decide_eq_false g2
            have g1' : decide (x1 < 1099511627776) = true := decide_eq_true g1
            clear g1 g2
            go_quiet (fail)
            have R7 := Lib.hid (R6.out.bel (below_drewN (Below.refl _ _) nq))
            obtain ⟨A', c', W9, hap, hown, hb9⟩ := append_new (W := wr.drewN nq) (c2 := cap) kindV ([] : List K.V) (show RowIn (wr.drewN nq) (some ⟨lb, lo, none⟩) 2 encV l from HA.out.below R7.out.1) hpos (by show 0 + l.length ≤ 1000; omega)
            have AP : Hid ((Builtin.append_ #[62, 62] 62 #[.slice (some ⟨(wr.drewN nq).heap.size, 0, none⟩) 0 0, .slice (some ⟨lb, lo, none⟩) l.length cap]).run Try.prog ((wr.drewN nq).alloc (.cells #[] 54)) = .ok (.slice A' (0 + l.length) c') W9) := hap
            obtain ⟨g, rfl, hg0, hg1, hfz, hrow⟩ := hown.at_ kindV hpos
            have OW := Lib.hid hown
            have R9 := Lib.hid (R7.out.bel hb9)
            have v0 : W9.cell? ⟨g, i * 2, none⟩ = some (.int .i64 a1) := hrow i _ HY.out 0 _ rfl
            have v1 : W9.cell? ⟨g, i * 2 + 1, none⟩ = some (.int .i64 a2) := hrow i _ HY.out 1 _ rfl
            have v2 : W9.frozen? ⟨g, i * 2, none⟩ = false := hfz _
            have v3 : W9.frozen? ⟨g, i * 2 + 1, none⟩ = false := hfz _
            have v4 : W9.cell? ⟨bb, 0, none⟩ = some (.int .i64 b1) := R9.out.2.1 0 _ rfl
            have v5 : W9.cell? ⟨bb, 1, none⟩ = some (.int .i64 b2) := R9.out.2.1 1 _ rfl
            obtain ⟨W10, hW10⟩ : ∃ W, W = (W9.setCell ⟨g, i * 2, none⟩ (.int .i64 b1)).setCell ⟨g, i * 2 + 1, none⟩ (.int .i64 b2) := ⟨_, rfl⟩
            have R10 : Hid (SI w W10 bb xb b1 b2 x1 x2) := by rw [hW10]; exact R9.out.bel9 (R7.out.1.size) hb9 hg0 R7.out _ _ _ _
            have V10 : Hid (ValsIn W10 (some ⟨g, 0, none⟩) (l.set i (b1, b2))) := by rw [hW10]; exact (own_setV OW.out hlt b1 b2).row kindV
            have HW10 := Lib.hid hW10
            clear hap hown hg0 hg1 hfz hrow hb9 hW10
            rw [Nat.zero_add] at AP
            go_wp2_with (first | (refine wpL_v (some 63) rfl rfl (exec_append rfl (by rfl) (by rfl) AP.out) ?_))
            rw [← HW10.out]
            clear v0 v1 v2 v3 v4 v5
            have hlz : (i : Int) < (l.length : Int) := by omega
            have LR : W10.rangeAt lb (lo + i * 2) [.int .i64 a1, .int .i64 a2] := fun j u hu => (R10.out.1.cell (World.block_lt_of_cell? w _ (HLR.out j u hu))).trans (HLR.out j u hu)
            obtain ⟨L, hL⟩ : ∃ x, decide (a1 < b1 ∨ a1 = b1 ∧ a2 < b2) = x := ⟨_, rfl⟩
            cases L with
            | true =>
              refine sup_r11y (fun _ _ _ _ _ h => h) hlz hL LR R10.out.2.1 R10.out.2.2 ?_
              rintro w11 b11
              intro t68 t69 t70 t71 t72 t73 t74 t75 t76 t77 t78 t79 t80
              have R11 := Lib.hid (R10.out.bel b11)
              clear b11 hL LR
              go_wp2_with fail
              go_roundg (l.length - (i + 1))
              case measure => omega
              case rel => exact ⟨i + 1, by go_num, by omega, by omega, R11.out⟩
            | false =>
              obtain ⟨z1, hz1⟩ : ∃ x, (K.combV cost (l.set i (b1, b2))).1 = x := ⟨_, rfl⟩
              obtain ⟨z2, hz2⟩ : ∃ x, (K.combV cost (l.set i (b1, b2))).2 = x := ⟨_, rfl⟩
              have hE : encV (K.combV cost (l.set i (b1, b2))) = [.int .i64 z1, .int .i64 z2] := by unfold encV; rw [hz1, hz2]
              have hle := K.combV_set (cost := cost) (i := i) HC.out.2 HL.out.2 HL.out.1 HY.out (show K.leV (b1, b2) (a1, a2) from of_decide_eq_false hL)
              have hZ : decide (x1 < z1 ∨ x1 = z1 ∧ x2 < z2) = false := decide_eq_false (by
                rw [show K.combV cost (l.set i (b1, b2)) = (z1, z2) from Prod.ext hz1 hz2, HX.out] at hle
                exact hle)
              have C47 : Hid (∀ W : World, Below W10.heap.size W10 W → Calls Try.prog 47 #[.int .i64 cost, .slice (some ⟨g, 0, none⟩) l.length c'] W fun r w' => r = .returned (.agg #[.int .i64 z1, .int .i64 z2]) ∧ Below W.heap.size W w') := fun W hW => by
                have := combine47 (cap := c') cost _ (V10.out.below hW) HC.out.1 HC.out.2 (fun x hx => by
                  rcases List.mem_or_eq_of_mem_set hx with hx | rfl
                  · exact HL.out.2 x hx
                  · exact HL.out.1) (by rw [List.length_set]; omega)
                rw [hE, List.length_set] at this
                exact this
              refine sup_r11n (fun _ _ _ _ _ h => h) hlz hL hZ C47 LR R10.out.2.1 R10.out.2.2 ?_
              rintro w11 b11
              intro t68 t69 t70 t71 t72 t73 t74 t75 t76 t77 t78 t79 t80
              have R11 := Lib.hid (R10.out.bel b11)
              clear b11 hL LR hZ hle hE hz1 hz2
              go_wp2_with fail
              go_roundg (l.length - (i + 1))
              case measure => omega
              case rel => exact ⟨i + 1, by go_num, by omega, by omega, R11.out⟩
        · have g1' : decide (x1 < 1099511627776) = false := decide_eq_false g1
          clear g1
          go_quiet (fail)
          have R7 := Lib.hid (R6.out.bel (below_drewN (Below.refl _ _) nq))
          obtain ⟨A', c', W9, hap, hown, hb9⟩ := append_new (W := wr.drewN nq) (c2 := cap) kindV ([] : List K.V) (show RowIn (wr.drewN nq) (some ⟨lb, lo, none⟩) 2 encV l from HA.out.below R7.out.1) hpos (by show 0 + l.length ≤ 1000; omega)
          have AP : Hid ((Builtin.append_ #[62, 62] 62 #[.slice (some ⟨(wr.drewN nq).heap.size, 0, none⟩) 0 0, .slice (some ⟨lb, lo, none⟩) l.length cap]).run Try.prog ((wr.drewN nq).alloc (.cells #[] 54)) = .ok (.slice A' (0 + l.length) c') W9) := hap
          obtain ⟨g, rfl, hg0, hg1, hfz, hrow⟩ := hown.at_ kindV hpos
          have OW := Lib.hid hown
          have R9 := Lib.hid (R7.out.bel hb9)
          have v0 : W9.cell? ⟨g, i * 2, none⟩ = some (.int .i64 a1) := hrow i _ HY.out 0 _ rfl
          have v1 : W9.cell? ⟨g, i * 2 + 1, none⟩ = some (.int .i64 a2) := hrow i _ HY.out 1 _ rfl
          have v2 : W9.frozen? ⟨g, i * 2, none⟩ = false := hfz _
          have v3 : W9.frozen? ⟨g, i * 2 + 1, none⟩ = false := hfz _
          have v4 : W9.cell? ⟨bb, 0, none⟩ = some (.int .i64 b1) := R9.out.2.1 0 _ rfl
          have v5 : W9.cell? ⟨bb, 1, none⟩ = some (.int .i64 b2) := R9.out.2.1 1 _ rfl
          obtain ⟨W10, hW10⟩ : ∃ W, W = (W9.setCell ⟨g, i * 2, none⟩ (.int .i64 b1)).setCell ⟨g, i * 2 + 1, none⟩ (.int .i64 b2) := ⟨_, rfl⟩
          have R10 : Hid (SI w W10 bb xb b1 b2 x1 x2) := by rw [hW10]; exact R9.out.bel9 (R7.out.1.size) hb9 hg0 R7.out _ _ _ _
          have V10 : Hid (ValsIn W10 (some ⟨g, 0, none⟩) (l.set i (b1, b2))) := by rw [hW10]; exact (own_setV OW.out hlt b1 b2).row kindV
          have HW10 := Lib.hid hW10
          clear hap hown hg0 hg1 hfz hrow hb9 hW10
          rw [Nat.zero_add] at AP
          go_wp2_with (first | (refine wpL_v (some 63) rfl rfl (exec_append rfl (by rfl) (by rfl) AP.out) ?_))
          rw [← HW10.out]
          clear v0 v1 v2 v3 v4 v5
          have hlz : (i : Int) < (l.length : Int) := by omega
          have LR : W10.rangeAt lb (lo + i * 2) [.int .i64 a1, .int .i64 a2] := fun j u hu => (R10.out.1.cell (World.block_lt_of_cell? w _ (HLR.out j u hu))).trans (HLR.out j u hu)
          obtain ⟨L, hL⟩ : ∃ x, decide (a1 < b1 ∨ a1 = b1 ∧ a2 < b2) = x := ⟨_, rfl⟩
          cases L with
          | true =>
            refine sup_r11y (fun _ _ _ _ _ h => h) hlz hL LR R10.out.2.1 R10.out.2.2 ?_
            rintro w11 b11
            intro t68 t69 t70 t71 t72 t73 t74 t75 t76 t77 t78 t79 t80
            have R11 := Lib.hid (R10.out.bel b11)
            clear b11 hL LR
            go_wp2_with fail
            go_roundg (l.length - (i + 1))
            case measure => omega
            case rel => exact ⟨i + 1, by go_num, by omega, by omega, R11.out⟩
          | false =>
            obtain ⟨z1, hz1⟩ : ∃ x, (K.combV cost (l.set i (b1, b2))).1 = x := ⟨_, rfl⟩
            obtain ⟨z2, hz2⟩ : ∃ x, (K.combV cost (l.set i (b1, b2))).2 = x := ⟨_, rfl⟩
            have hE : encV (K.combV cost (l.set i (b1, b2))) = [.int .i64 z1, .int .i64 z2] := by unfold encV; rw [hz1, hz2]
            have hle := K.combV_set (cost := cost) (i := i) HC.out.2 HL.out.2 HL.out.1 HY.out (show K.leV (b1, b2) (a1, a2) from of_decide_eq_false hL)
            have hZ : decide (x1 < z1 ∨ x1 = z1 ∧ x2 < z2) = false := decide_eq_false (by
              rw [show K.combV cost (l.set i (b1, b2)) = (z1, z2) from Prod.ext hz1 hz2, HX.out] at hle
              exact hle)
            have C47 : Hid (∀ W : World, Below W10.heap.size W10 W → Calls Try.prog 47 #[.int .i64 cost, .slice (some ⟨g, 0, none⟩) l.length c'] W fun r w' => r = .returned (.agg #[.int .i64 z1, .int .i64 z2]) ∧ Below W.heap.size W w') := fun W hW => by
              have := combine47 (cap := c') cost _ (V10.out.below hW) HC.out.1 HC.out.2 (fun x hx => by
                rcases List.mem_or_eq_of_mem_set hx with hx | rfl
                · exact HL.out.2 x hx
                · exact HL.out.1) (by rw [List.length_set]; omega)
              rw [hE, List.length_set] at this
              exact this
            refine sup_r11n (fun _ _ _ _ _ h => h) hlz hL hZ C47 LR R10.out.2.1 R10.out.2.2 ?_
            rintro w11 b11
            intro t68 t69 t70 t71 t72 t73 t74 t75 t76 t77 t78 t79 t80
            have R11 := Lib.hid (R10.out.bel b11)
            clear b11 hL LR hZ hle hE hz1 hz2
            go_wp2_with fail
            go_roundg (l.length - (i + 1))
            case measure => omega
            case rel => exact ⟨i + 1, by go_num, by omega, by omega, R11.out⟩
      · have hlz : ¬ (i : Int) < (l.length : Int) := by omega
        obtain rfl : l.length = i := by omega
        go_wp2_with fail
        with_reducible refine (AW.out _).mono ?_
        rintro r w6 ⟨rfl, b6⟩
        have B6 : Hid (Below w.heap.size w w6) := HR.out.1.trans (b6.mono HR.out.1.size)
        clear b6
        go_wp2_with fail
        go_ret
        exact ⟨rfl, B6.out⟩
end Go.Proofs.Ytepfbhigeghjjaa.Q
