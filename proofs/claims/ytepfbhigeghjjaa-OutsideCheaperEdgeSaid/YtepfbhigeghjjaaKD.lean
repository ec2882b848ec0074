/- Combine of the reference. -/
import Derived.Test.YtepfbhigeghjjaaKC
namespace Go.Proofs.Ytepfbhigeghjjaa.Q
open Go.RowKit Go.Proofs.YtepfbhigeghjjaaW.PrintLast
set_option linter.unusedVariables false
set_option linter.unusedSimpArgs false
theorem below_drewN {B : Nat} {w W : World} (h : Below B w W) (n : Nat) : Below B w (W.drewN n) := ⟨h.os, h.tape, h.output, h.size, h.block⟩
structure DInv (w wr : World) (rb : Nat) (cost : Int) (l : List K.V) (i : Nat) (c s : Int) : Prop where
  eq : (l.take i).foldl K.stepV (cost, 1) = (c, s)
  res : wr.heap[rb]? = some (.cells #[.int .i64 0, .int .i64 0] 54 (0, 0))
  below : Below w.heap.size w wr
set_option maxHeartbeats 2000000 in
set_option maxRecDepth 100000 in
theorem combine48 {w : World} {A : Option Addr} {cap : Nat} (cost : Int) (l : List K.V) (hA : ValsIn w A l) (h0 : 0 ≤ cost) (h1 : cost ≤ K.INF) (hl : ∀ x ∈ l, K.OkV x) (hlen : l.length ≤ 1000000000) :
    Calls Try.prog 48 #[.int .i64 cost, .slice A l.length cap] w fun r w' => r = .returned (.agg (encV (K.combV cost l)).toArray) ∧ Below w.heap.size w w' := by
  have HA := Lib.hid hA
  have HP := Lib.hid (part_ok h0 h1 hl)
  have HL := Lib.hid hl
  clear hA hl
  have hmin : cost ≤ 1099511627776 := h1
  clear h1
  obtain ⟨W1, hW1⟩ : ∃ W, W = w.alloc (.cells #[.int .i64 0, .int .i64 0] 54) := ⟨_, rfl⟩
  obtain ⟨rb, hrb⟩ : ∃ b, b = w.heap.size := ⟨_, rfl⟩
  have HI : Hid (DInv w W1 rb cost l 0 cost 1) := ⟨rfl, by rw [hW1, hrb]; exact heap_alloc_new w _, by rw [hW1]; exact (Below.refl _ _).alloc (Nat.le_refl _) _⟩
  have HW := Lib.hid (And.intro hW1 hrb)
  clear hW1 hrb
  go_enter Try.func48, Try.ntmps48
  go_wp2_with fail
  rw [← HW.out.1, ← HW.out.2]
  go_loopg [5, 6, 7] l.length (fun k s5 s6 s7 wr => ∃ (i : Nat) (c s : Int), s5 = .int .i64 c ∧ s6 = .int .i64 s ∧ s7 = .int .i64 i ∧ i ≤ l.length ∧ l.length - i ≤ k ∧ Hid (DInv w wr rb cost l i c s))
  case atStart => exact ⟨0, cost, 1, rfl, rfl, rfl, by omega, by omega, HI⟩
  case round =>
    clear HI
    obtain ⟨i, c, s, rfl, rfl, rfl, hi, hk, HR⟩ := hrel
    have hp := HP.out i
    rw [HR.out.eq] at hp
    obtain ⟨q1, q2, q3, q4⟩ := hp
    have q1 : 0 ≤ c := q1
    have q2 : c ≤ 1099511627776 := q2
    have q3 : 0 ≤ s := q3
    have q4 : s ≤ 1099511627776 := q4
    by_cases hlt : i < l.length
    · obtain ⟨y, hy⟩ : ∃ y, l[i]? = some y := ⟨_, List.getElem?_eq_getElem hlt⟩
      have hyo := HL.out y (List.mem_of_getElem? hy)
      obtain ⟨b, o, rfl, hr⟩ := HA.out i y hy
      obtain ⟨a1, a2⟩ := y
      obtain ⟨p1, p2, p3, p4⟩ := hyo
      have p1 : 0 ≤ a1 := p1
      have p2 : a1 ≤ 1099511627776 := p2
      have p3 : 0 ≤ a2 := p3
      have p4 : a2 ≤ 1099511627776 := p4
      have y1 : wr.cell? ⟨b, o + i * 2, none⟩ = some (.int .i64 a1) := by have := hr 0 _ rfl; exact (HR.out.below.cell (World.block_lt_of_cell? w _ this)).trans this
      have y2 : wr.cell? ⟨b, o + i * 2 + 1, none⟩ = some (.int .i64 a2) := by have := hr 1 _ rfl; exact (HR.out.below.cell (World.block_lt_of_cell? w _ this)).trans this
      have hlz : (i : Int) < (l.length : Int) := by omega
      have hw1 : IntKind.i64.wrap (c + a1) = c + a1 := IntWalk.i64_in _ (by omega)
      have hw2 : IntKind.i64.wrap (s + a2) = s + a2 := IntWalk.i64_in _ (by omega)
      have HY := Lib.hid hy
      clear hy hr
      go_wp2_with fail
      have hlz : (i : Int) < (l.length : Int) := by omega
      by_cases hm1 : c + a1 ≤ 1099511627776 <;> by_cases hm2 : s + a2 ≤ 1099511627776
      all_goals
        go_quiet (fail)
        go_wp2_with fail
        go_roundg (l.length - (i + 1))
        case measure => omega
        case rel =>
          refine ⟨i + 1, _, _, rfl, rfl, by go_num, by omega, by omega, ⟨?_, HR.out.res, below_drewN HR.out.below nq⟩⟩
          rw [fold_take HY.out, HR.out.eq]
          exact step_eq (by omega) (by omega)
    · have hlz : ¬ (i : Int) < (l.length : Int) := by omega
      obtain rfl : i = l.length := by omega
      have he := HR.out.eq
      rw [List.take_length] at he
      have r1 : wr.cell? ⟨rb, 0, none⟩ = some (.int .i64 0) := by simp only [World.cell?, HR.out.res]; rfl
      have r2 : wr.cell? ⟨rb, 1, none⟩ = some (.int .i64 0) := by simp only [World.cell?, HR.out.res]; rfl
      have f1 : wr.frozen? ⟨rb, 0, none⟩ = false := frozen_blk HR.out.res 0
      have f2 : wr.frozen? ⟨rb, 1, none⟩ = false := frozen_blk HR.out.res 1
      have HEQ := Lib.hid he
      have HB : Hid (w.heap.size ≤ rb) := by rw [HW.out.2]; exact Nat.le_refl _
      clear he
      by_cases hc : (1099511627776 : Int) ≤ c
      · have hres : Hid (K.combV cost l = (1099511627776, 0)) := by
          show _ = _
          unfold K.combV K.endV
          rw [HEQ.out, if_pos (by show K.INF ≤ c; exact hc)]
        go_wp2_with fail
        rw [hres.out]
        refine bodyPost_ret (res_c rfl _ _ rb [.int .i64 1099511627776, .int .i64 0] (by rfl) ?_ Try.underlying54 rfl (by kernel_rfl)) rfl ?_
        · refine box_range (L := [.int .i64 1099511627776, .int .i64 0]) (t := 54) ?_ 0 _ (fun j v h => by rw [Nat.zero_add]; exact h)
          exact set_cell (set_cell HR.out.res 0 _) 1 _
        · exact ⟨rfl, (HR.out.below.setCell (p := ⟨rb, 0, none⟩) HB.out _).setCell (p := ⟨rb, 1, none⟩) HB.out _⟩
      · have hres : Hid (K.combV cost l = (c, s)) := by
          show _ = _
          unfold K.combV K.endV
          rw [HEQ.out, if_neg (by show ¬ K.INF ≤ c; exact hc)]
        go_wp2_with fail
        rw [hres.out]
        refine bodyPost_ret (res_c rfl _ _ rb [.int .i64 c, .int .i64 s] (by rfl) ?_ Try.underlying54 rfl (by kernel_rfl)) rfl ?_
        · refine box_range (L := [.int .i64 c, .int .i64 s]) (t := 54) ?_ 0 _ (fun j v h => by rw [Nat.zero_add]; exact h)
          exact set_cell (set_cell HR.out.res 0 _) 1 _
        · exact ⟨rfl, (HR.out.below.setCell (p := ⟨rb, 0, none⟩) HB.out _).setCell (p := ⟨rb, 1, none⟩) HB.out _⟩
end Go.Proofs.Ytepfbhigeghjjaa.Q
