/- KnuthCombine: the walk. -/
import Derived.Test.YtepfbhigeghjjaaKA
namespace Go.Proofs.Ytepfbhigeghjjaa.Q
open Go.RowKit Go.Proofs.YtepfbhigeghjjaaW.PrintLast
set_option linter.unusedVariables false
set_option linter.unusedSimpArgs false
def OrdPost (w : World) (l : List K.V) (r : Ending) (w' : World) : Prop := ∃ b, r = .returned (.bool b) ∧ (b = true ↔ ∀ x ∈ l, K.OkV x) ∧ Below w.heap.size w w'
theorem not_ok {l : List K.V} {i : Nat} {y : K.V} (hy : l[i]? = some y) (h : ¬ K.OkV y) : (false = true ↔ ∀ x ∈ l, K.OkV x) := ⟨(fun h => by cases h), fun h1 => absurd (h1 y (List.mem_of_getElem? hy)) h⟩
set_option maxHeartbeats 4000000 in
set_option maxRecDepth 100000 in
theorem ordinary46 {w : World} {A : Option Addr} {cap : Nat} (l : List K.V) (hA : ValsIn w A l) (hlen : l.length ≤ 1000000) : Calls Try.prog 46 #[.slice A l.length cap] w (OrdPost w l) := by
  have HA := Lib.hid hA
  clear hA
  go_enter Try.func46, Try.ntmps46
  go_wp2_with fail
  go_loopg [3] l.length (fun k si wr => ∃ i : Nat, si = .int .i64 i ∧ i ≤ l.length ∧ l.length - i ≤ k ∧ Hid (Below w.heap.size w wr ∧ ∀ (j : Nat) y, j < i → l[j]? = some y → K.OkV y))
  case atStart => exact ⟨0, rfl, by omega, by omega, Below.refl _ _, fun j _ h => absurd h (Nat.not_lt_zero j)⟩
  case round =>
    obtain ⟨i, rfl, hi, hk, HR⟩ := hrel
    by_cases hlt : i < l.length
    · obtain ⟨y, hy⟩ : ∃ y, l[i]? = some y := ⟨_, List.getElem?_eq_getElem hlt⟩
      obtain ⟨b, o, rfl, hr⟩ := HA.out i y hy
      obtain ⟨c, s⟩ := y
      have y1 : wr.cell? ⟨b, o + i * 2, none⟩ = some (.int .i64 c) := by have := hr 0 _ rfl; exact (HR.out.1.cell (World.block_lt_of_cell? w _ this)).trans this
      have y2 : wr.cell? ⟨b, o + i * 2 + 1, none⟩ = some (.int .i64 s) := by have := hr 1 _ rfl; exact (HR.out.1.cell (World.block_lt_of_cell? w _ this)).trans this
      have hlz : (i : Int) < (l.length : Int) := by omega
      have HY := Lib.hid hy
      clear hy hr
      by_cases h1 : c < 0
      · have N : Hid (¬ K.OkV (c, s)) := fun h => by have h2 : 0 ≤ c := h.1; omega
        go_wp2_with fail
        go_ret
        exact ⟨false, rfl, not_ok HY.out N.out, HR.out.1⟩
      by_cases h2 : 1099511627776 < c
      · have N : Hid (¬ K.OkV (c, s)) := fun h => by have h3 : c ≤ 1099511627776 := h.2.1; omega
        go_wp2_with fail
        go_ret
        exact ⟨false, rfl, not_ok HY.out N.out, HR.out.1⟩
      by_cases h3 : s < 0
      · have N : Hid (¬ K.OkV (c, s)) := fun h => by have h3 : 0 ≤ s := h.2.2.1; omega
        go_wp2_with fail
        go_ret
        exact ⟨false, rfl, not_ok HY.out N.out, HR.out.1⟩
      by_cases h4 : 1099511627776 < s
      · have N : Hid (¬ K.OkV (c, s)) := fun h => by have h3 : s ≤ 1099511627776 := h.2.2.2; omega
        go_wp2_with fail
        go_ret
        exact ⟨false, rfl, not_ok HY.out N.out, HR.out.1⟩
      have N : Hid (K.OkV (c, s)) := ⟨Int.not_lt.1 h1, Int.not_lt.1 h2, Int.not_lt.1 h3, Int.not_lt.1 h4⟩
      go_wp2_with fail
      go_roundg (l.length - (i + 1))
      case measure => omega
      case rel => exact ⟨i + 1, by go_num, by omega, by omega, HR.out.1, fun j y hj hy => by
        by_cases hji : j = i
        · subst hji
          rw [HY.out] at hy
          cases hy
          exact N.out
        · exact HR.out.2 j y (by omega) hy⟩
    · have hlz : ¬ (i : Int) < (l.length : Int) := by omega
      obtain rfl : l.length = i := by omega
      go_wp2_with fail
      go_ret
      exact ⟨true, rfl, ⟨fun _ x hx => by
        obtain ⟨j, hj⟩ := List.getElem?_of_mem hx
        exact HR.out.2 j x (List.getElem?_eq_some_iff.1 hj).1 hj, fun _ => rfl⟩, HR.out.1⟩
set_option maxHeartbeats 4000000 in
set_option maxRecDepth 100000 in
theorem combine_walk (cost : Int) (A : Option Addr) (l : List K.V) (cap : Nat) (w : World) (hA : ValsIn w A l) :
    Calls Try.prog 11 #[.int .i64 cost, .slice A l.length cap] w fun r w' => r = .returned (.bool true) ∧ Below w.heap.size w w' := by
  have AW := Lib.hid awake44
  have HA := Lib.hid hA
  clear hA
  by_cases h1 : cost < 0
  · go_enter Try.func11, Try.ntmps11
    go_wp2_with fail
    with_reducible refine (AW.out _).mono ?_
    rintro r w1 ⟨rfl, b1⟩
    have B1 := Lib.hid b1
    clear b1
    go_wp2_with fail
    go_ret
    exact ⟨rfl, B1.out⟩
  by_cases h2 : 1099511627776 < cost
  · go_enter Try.func11, Try.ntmps11
    go_wp2_with fail
    with_reducible refine (AW.out _).mono ?_
    rintro r w1 ⟨rfl, b1⟩
    have B1 := Lib.hid b1
    clear b1
    go_wp2_with fail
    go_ret
    exact ⟨rfl, B1.out⟩
  by_cases h3 : (20 : Int) < (l.length : Int)
  · go_enter Try.func11, Try.ntmps11
    go_wp2_with fail
    with_reducible refine (AW.out _).mono ?_
    rintro r w1 ⟨rfl, b1⟩
    have B1 := Lib.hid b1
    clear b1
    go_wp2_with fail
    go_ret
    exact ⟨rfl, B1.out⟩
  have hl : l.length ≤ 20 := by omega
  have HC : Hid (0 ≤ cost ∧ cost ≤ K.INF) := ⟨Int.not_lt.1 h1, Int.not_lt.1 h2⟩
  have CO := Lib.hid (ordinary46 (cap := cap) l HA.out (by omega))
  go_enter Try.func11, Try.ntmps11
  go_wp2_with fail
  with_reducible refine CO.out.mono ?_
  rintro r w1 ⟨b, rfl, hb, b1⟩
  have B1 := Lib.hid b1
  cases b with
  | false =>
    clear hb b1
    go_wp2_with fail
    with_reducible refine (AW.out _).mono ?_
    rintro r w2 ⟨rfl, b2⟩
    have B2 := Lib.hid b2
    clear b2
    go_wp2_with fail
    go_ret
    exact ⟨rfl, B1.out.trans (B2.out.mono B1.out.size)⟩
  | true =>
    have HL := Lib.hid (hb.1 rfl)
    clear hb b1
    go_wp2_with fail
    with_reducible refine (AW.out _).mono ?_
    rintro r w2 ⟨rfl, b2⟩
    have B2 : Hid (Below w.heap.size w w2) := B1.out.trans (b2.mono B1.out.size)
    obtain ⟨c, hc⟩ : ∃ x, (K.combV cost l).1 = x := ⟨_, rfl⟩
    obtain ⟨s, hs⟩ : ∃ x, (K.combV cost l).2 = x := ⟨_, rfl⟩
    have hE : encV (K.combV cost l) = [.int .i64 c, .int .i64 s] := by unfold encV; rw [hc, hs]
    have C47 : Hid (∀ W, Below w.heap.size w W → Calls Try.prog 47 #[.int .i64 cost, .slice A l.length cap] W fun r w' => r = .returned (.agg #[.int .i64 c, .int .i64 s]) ∧ Below W.heap.size W w') := fun W hW => by
      have := combine47 (cap := cap) cost l (HA.out.below hW) HC.out.1 HC.out.2 HL.out (by omega)
      rw [hE] at this
      exact this
    have C48 : Hid (∀ W, Below w.heap.size w W → Calls Try.prog 48 #[.int .i64 cost, .slice A l.length cap] W fun r w' => r = .returned (.agg #[.int .i64 c, .int .i64 s]) ∧ Below W.heap.size W w') := fun W hW => by
      have := combine48 (cap := cap) cost l (HA.out.below hW) HC.out.1 HC.out.2 HL.out (by omega)
      rw [hE] at this
      exact this
    clear b2 hc hs hE
    go_wp2_with fail
    with_reducible refine (C47.out _ B2.out).mono ?_
    rintro r w3 ⟨rfl, b3⟩
    have B3 : Hid (Below w.heap.size w w3) := B2.out.trans (b3.mono B2.out.size)
    clear b3
    go_wp2_with fail
    with_reducible refine (C48.out _ B3.out).mono ?_
    rintro r w4 ⟨rfl, b4⟩
    have B4 : Hid (Below w.heap.size w w4) := B3.out.trans (b4.mono B3.out.size)
    clear b4
    go_wp2_with fail
    go_ret
    exact ⟨rfl, B4.out⟩
end Go.Proofs.Ytepfbhigeghjjaa.Q
