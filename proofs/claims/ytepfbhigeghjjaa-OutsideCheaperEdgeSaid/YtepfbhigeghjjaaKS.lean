/- SameValues, SameInts at two equal lists; the example of chapter 29. -/
import Derived.Test.YtepfbhigeghjjaaKI
import Derived.Test.YtepfbhigeghjjaaK3
namespace Go.Proofs.Ytepfbhigeghjjaa.Q
open Go.RowKit Go.Proofs.YtepfbhigeghjjaaW.PrintLast
set_option linter.unusedVariables false
set_option linter.unusedSimpArgs false
set_option maxHeartbeats 2000000 in
set_option maxRecDepth 100000 in
theorem same53 {w : World} {A B : Option Addr} {ca cb : Nat} (l : List Int) (hA : IntsIn w A l) (hB : IntsIn w B l) (hlen : l.length ≤ 1000000000) :
    Calls Try.prog 53 #[.slice A l.length ca, .slice B l.length cb] w fun r w' => r = .returned (.bool true) ∧ Below w.heap.size w w' := by
  have HA := Lib.hid hA
  have HB := Lib.hid hB
  clear hA hB
  go_enter Try.func53, Try.ntmps53
  go_wp2_with fail
  go_loopg [5] l.length (fun k si wr => ∃ i : Nat, si = .int .i64 i ∧ i ≤ l.length ∧ l.length - i ≤ k ∧ Hid (Below w.heap.size w wr))
  case atStart => exact ⟨0, rfl, by omega, by omega, Below.refl _ _⟩
  case round =>
    obtain ⟨i, rfl, hi, hk, HR⟩ := hrel
    by_cases hlt : i < l.length
    · obtain ⟨y, hy⟩ : ∃ y, l[i]? = some y := ⟨_, List.getElem?_eq_getElem hlt⟩
      obtain ⟨b, o, rfl, hr⟩ := HA.out i y hy
      obtain ⟨b', o', rfl, hr'⟩ := HB.out i y hy
      have y1 : wr.cell? ⟨b, o + i, none⟩ = some (.int .i64 y) := (HR.out.cell (World.block_lt_of_cell? w _ hr)).trans hr
      have y2 : wr.cell? ⟨b', o' + i, none⟩ = some (.int .i64 y) := (HR.out.cell (World.block_lt_of_cell? w _ hr')).trans hr'
      have hlz : (i : Int) < (l.length : Int) := by omega
      have HLT : Hid (i + 1 ≤ l.length) := hlt
      clear hy hr hr'
      go_wp2_with fail
      have hlz : (i : Int) < (l.length : Int) := by omega
      go_quiet (fail)
      go_wp2_with fail
      go_roundg (l.length - (i + 1))
      case measure =>
        have := HLT.out
        omega
      case rel => exact ⟨i + 1, by go_num, HLT.out, by omega, below_drewN HR.out nq⟩
    · have hlz : ¬ (i : Int) < (l.length : Int) := by omega
      go_wp2_with fail
      go_ret
      exact ⟨rfl, HR.out⟩
set_option maxHeartbeats 2000000 in
set_option maxRecDepth 100000 in
theorem same52 {w : World} {A B : Option Addr} {ca cb : Nat} (l : List K.V) (hA : ValsIn w A l) (hB : ValsIn w B l) (hlen : l.length ≤ 1000000000) :
    Calls Try.prog 52 #[.slice A l.length ca, .slice B l.length cb] w fun r w' => r = .returned (.bool true) ∧ Below w.heap.size w w' := by
  have HA := Lib.hid hA
  have HB := Lib.hid hB
  clear hA hB
  go_enter Try.func52, Try.ntmps52
  go_wp2_with fail
  go_loopg [5] l.length (fun k si wr => ∃ i : Nat, si = .int .i64 i ∧ i ≤ l.length ∧ l.length - i ≤ k ∧ Hid (Below w.heap.size w wr))
  case atStart => exact ⟨0, rfl, by omega, by omega, Below.refl _ _⟩
  case round =>
    obtain ⟨i, rfl, hi, hk, HR⟩ := hrel
    by_cases hlt : i < l.length
    · obtain ⟨y, hy⟩ : ∃ y, l[i]? = some y := ⟨_, List.getElem?_eq_getElem hlt⟩
      obtain ⟨b, o, rfl, hr⟩ := HA.out i y hy
      obtain ⟨b', o', rfl, hr'⟩ := HB.out i y hy
      obtain ⟨c, s⟩ := y
      have y1 : wr.cell? ⟨b, o + i * 2, none⟩ = some (.int .i64 c) := by have := hr 0 _ rfl; exact (HR.out.cell (World.block_lt_of_cell? w _ this)).trans this
      have y2 : wr.cell? ⟨b, o + i * 2 + 1, none⟩ = some (.int .i64 s) := by have := hr 1 _ rfl; exact (HR.out.cell (World.block_lt_of_cell? w _ this)).trans this
      have y3 : wr.cell? ⟨b', o' + i * 2, none⟩ = some (.int .i64 c) := by have := hr' 0 _ rfl; exact (HR.out.cell (World.block_lt_of_cell? w _ this)).trans this
      have y4 : wr.cell? ⟨b', o' + i * 2 + 1, none⟩ = some (.int .i64 s) := by have := hr' 1 _ rfl; exact (HR.out.cell (World.block_lt_of_cell? w _ this)).trans this
      have hlz : (i : Int) < (l.length : Int) := by omega
      have HLT : Hid (i + 1 ≤ l.length) := hlt
      clear hy hr hr'
      go_wp2_with fail
      have hlz : (i : Int) < (l.length : Int) := by omega
      go_quiet (fail)
      go_wp2_with fail
      go_roundg (l.length - (i + 1))
      case measure =>
        have := HLT.out
        omega
      case rel => exact ⟨i + 1, by go_num, HLT.out, by omega, below_drewN HR.out nq⟩
    · have hlz : ¬ (i : Int) < (l.length : Int) := by omega
      go_wp2_with fail
      go_ret
      exact ⟨rfl, HR.out⟩
/-- The example as it lies in memory. -/
def ex29 (p q : Nat) : List REd := [⟨none, 0, 0, [], 5, 0, 0⟩, ⟨some ⟨p, 0, none⟩, 2, 1, [0, 0], 1, 0, 0⟩, ⟨some ⟨q, 0, none⟩, 1, 0, [1], 0, 0, 0⟩, ⟨none, 0, 1, [], 2, 0, 0⟩]
theorem ex29_plain (p q : Nat) : (ex29 p q).map REd.plain = K.E29 := rfl
theorem ex29_ok (p q : Nat) : ∀ e ∈ ex29 p q, e.ok 2 := by
  intro e he
  simp only [ex29, List.mem_cons, List.not_mem_nil, or_false] at he
  rcases he with rfl | rfl | rfl | rfl <;> (unfold REd.ok; simp; try decide)
def Ex29Post (w : World) (r : Ending) (w' : World) : Prop :=
  ∃ b p q, r = .returned (.agg #[.int .i64 2, .slice (some ⟨b, 0, none⟩) 4 4]) ∧ EdsIn w' (some ⟨b, 0, none⟩) (ex29 p q) ∧ Below w.heap.size w w'
set_option maxHeartbeats 2000000 in
set_option maxRecDepth 100000 in
theorem example74 (w : World) : Calls Try.prog 74 #[] w (Ex29Post w) := by
  go_enter Try.func74, Try.ntmps74
  go_wp2_with fail
  have F := four_alloc w (.cells #[.int .i64 2, .slice (some ⟨w.heap.size + 1 + 1 + 1, 0, none⟩) 4 4] 48) (.cells #[.int .i64 0, .int .i64 0] 3) (.cells #[.int .i64 1] 3)
    (.cells #[.int .i64 0, .slice none 0 0, .int .i64 5, .int .i64 0, .int .i64 0, .int .i64 1, .slice (some ⟨w.heap.size + 1, 0, none⟩) 2 2, .int .i64 1, .int .i64 0, .int .i64 0, .int .i64 0, .slice (some ⟨w.heap.size + 1 + 1, 0, none⟩) 1 1, .int .i64 0, .int .i64 0, .int .i64 0, .int .i64 1, .slice none 0 0, .int .i64 2, .int .i64 0, .int .i64 0] 60)
  obtain ⟨f1, f2, f3, f4, f5⟩ := F
  have s1 : ∀ o, (w.alloc o).heap.size = w.heap.size + 1 := fun o => by simp
  have s2 : ∀ o o', ((w.alloc o).alloc o').heap.size = w.heap.size + 1 + 1 := fun o o' => by simp
  have s3 : ∀ o o' o'', (((w.alloc o).alloc o').alloc o'').heap.size = w.heap.size + 1 + 1 + 1 := fun o o' o'' => by simp
  rw [s1] at f2
  rw [s2] at f3
  rw [s3] at f4
  refine bodyPost_ret (res_c rfl _ _ w.heap.size [.int .i64 2, .slice (some ⟨w.heap.size + 1 + 1 + 1, 0, none⟩) 4 4] (by rfl) ?_ Try.underlying48 rfl (by kernel_rfl)) rfl ?_
  · exact box_range (L := [.int .i64 2, .slice (some ⟨w.heap.size + 1 + 1 + 1, 0, none⟩) 4 4]) f1 0 _ (fun j v h => by rw [Nat.zero_add]; exact h)
  · refine ⟨w.heap.size + 1 + 1 + 1, w.heap.size + 1, w.heap.size + 1 + 1, rfl, ⟨fun j e he => ⟨_, 0, rfl, ?_⟩, fun e he => ?_⟩, f5.below (fun _ h => h.elim)⟩
    · intro i v hv
      have hj : j < 4 := (List.getElem?_eq_some_iff.1 he).1
      simp only [World.cell?, f4, Nat.zero_add]
      have : j = 0 ∨ j = 1 ∨ j = 2 ∨ j = 3 := by omega
      rcases this with rfl | rfl | rfl | rfl <;>
      · cases he
        have hi : i < 5 := (List.getElem?_eq_some_iff.1 hv).1
        have : i = 0 ∨ i = 1 ∨ i = 2 ∨ i = 3 ∨ i = 4 := by omega
        rcases this with rfl | rfl | rfl | rfl | rfl <;> (cases hv; rfl)
    · simp only [ex29, List.mem_cons, List.not_mem_nil, or_false] at he
      rcases he with rfl | rfl | rfl | rfl
      · intro j t ht; simp at ht
      · intro j t ht
        refine ⟨w.heap.size + 1, 0, rfl, ?_⟩
        have hj : j < 2 := (List.getElem?_eq_some_iff.1 ht).1
        simp only [World.cell?, f2, Nat.zero_add]
        have : j = 0 ∨ j = 1 := by omega
        rcases this with rfl | rfl <;> (cases ht; rfl)
      · intro j t ht
        refine ⟨w.heap.size + 1 + 1, 0, rfl, ?_⟩
        have hj : j < 1 := (List.getElem?_eq_some_iff.1 ht).1
        simp only [World.cell?, f3, Nat.zero_add]
        obtain rfl : j = 0 := by omega
        cases ht
        rfl
      · intro j t ht; simp at ht
end Go.Proofs.Ytepfbhigeghjjaa.Q
