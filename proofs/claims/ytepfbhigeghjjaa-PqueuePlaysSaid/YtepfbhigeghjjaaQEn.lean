/- The queue at E28: New, and what only looks. -/
import Derived.Test.YtepfbhigeghjjaaQEi
import Derived.Test.YtepfbhigeghjjaaQ4
namespace Go.Proofs.Ytepfbhigeghjjaa.Q
open Go.RowKit Go.Proofs.YtepfbhigeghjjaaW.PrintLast
set_option linter.unusedVariables false
set_option linter.unusedSimpArgs false

/-! ### New -/
set_option maxHeartbeats 1000000 in
theorem new_E {B : Nat} (w : World) (hB : B ≤ w.heap.size) : Calls Try.prog 26 #[lessE] w (NewPost (α := E28) 90 92 lessE B w) := by
  have hmm := @run_makeMap Try.prog
  have HB := Lib.hid hB
  clear hB
  show Calls Try.prog 26 #[.func (.func 27) #[] #[]] w _
  go_enter Try.func26, Try.ntmps26
  go_wp2
  go_ret
  have h1 := two_alloc w (.map #[] 0) (.cells #[.func (.func 27) #[] #[], .slice none 0 0, .map (some w.heap.size), .int .i64 0, .int .i64 0] 90)
  refine ⟨w.heap.size + 1, w.heap.size, rfl, ⟨h1.2, Nat.le_succ_of_le HB.out, HB.out, ⟨by simp [flat], .inl ⟨rfl, rfl⟩⟩, ⟨[], 0, ⟨h1.1, by simp, by simp, by simp⟩, fun k => rfl⟩, by simp⟩, ((Below.refl _ _).alloc (Nat.le_refl _) _).alloc (by simp) _, Nat.le_succ _, Nat.le_refl _⟩

/-! ### Len -/
theorem len_E {B : Nat} {w : World} {g mb : Nat} {hv : Value} {es : List (En E28)} {nx ck : Int} (hq : IsQ 90 92 lessE B w g hv mb es nx ck) :
    Calls Try.prog 31 #[.pointer (some ⟨g, 0, none⟩)] w fun r w' => r = .returned (.int .i64 es.length) ∧ w' = w := by
  obtain ⟨A, cap, hvA⟩ := hq.lens
  have c1 : w.cell? ⟨g, 1, none⟩ = some (.slice A es.length cap) := by rw [blk_cell1 hq.blk, hvA]
  clear hq hvA
  go_enter Try.func31, Try.ntmps31
  go_wp2
  go_ret
  exact ⟨rfl, rfl⟩

/-! ### Peek -/
theorem peekNone_E {B : Nat} {w : World} {g mb : Nat} {hv : Value} {nx ck : Int} (hq : IsQ 90 92 lessE B w g hv mb ([] : List (En E28)) nx ck) :
    Calls Try.prog 33 #[.pointer (some ⟨g, 0, none⟩)] w fun r w' => r = .returned (.tuple #[.agg #[.int .i64 0, .int .i64 0], .bool false]) ∧ Below w.heap.size w w' := by
  obtain ⟨A, cap, hvA⟩ := hq.lens
  have c0 : w.cell? ⟨g, 1, none⟩ = some (.slice A 0 cap) := by rw [blk_cell1 hq.blk, hvA]; rfl
  have c1 : (w.alloc (.cells #[.int .i64 0, .int .i64 0] 27)).cell? ⟨g, 1, none⟩ = some (.slice A 0 cap) := (eff_alloc w _).cell c0 (fun h => h)
  clear hq hvA c0
  go_enter Try.func33, Try.ntmps33
  go_wp2
  refine bodyPost_ret (res_ct rfl _ _ w.heap.size [.int .i64 0, .int .i64 0] (by rfl) ?_ Try.underlying27 rfl (by kernel_rfl)) rfl ?_
  · refine box_range (L := [.int .i64 0, .int .i64 0]) (t := 27) ?_ 0 _ (fun j v h => by rw [Nat.zero_add]; exact h)
    exact (two_alloc w _ _).1
  · exact ⟨rfl, ((Below.refl _ _).alloc (Nat.le_refl _) _).alloc (by simp) _⟩
set_option maxHeartbeats 1000000 in
theorem peek_E {B : Nat} {w : World} {g mb : Nat} {hv : Value} {es : List (En E28)} {nx ck : Int} (hq : IsQ 90 92 lessE B w g hv mb es nx ck) (e : En E28) (he : es[0]? = some e) :
    Calls Try.prog 33 #[.pointer (some ⟨g, 0, none⟩)] w fun r w' => r = .returned (.tuple #[.agg #[.int .i64 e.x.key, .int .i64 e.x.id], .bool true]) ∧ Below w.heap.size w w' := by
  have hpos : 0 < es.length := (List.getElem?_eq_some_iff.1 he).1
  obtain ⟨hb, cap, cur, rfl, hB, hh2, hcap, hmx, hs, hl⟩ := hq.row.form hpos
  have r0 := hq.row.range 0 e he
  rw [Nat.zero_mul] at r0
  have E := eff_alloc w (.cells #[.int .i64 0, .int .i64 0] 27)
  have c1 : (w.alloc (.cells #[.int .i64 0, .int .i64 0] 27)).cell? ⟨g, 1, none⟩ = some (.slice (some ⟨hb, 0, none⟩) es.length cap) := E.cell (blk_cell1 hq.blk) (fun h => h)
  have y0 : (w.alloc (.cells #[.int .i64 0, .int .i64 0] 27)).cell? ⟨hb, 0, none⟩ = some (.int .i64 e.x.key) := E.cell (by have := r0 0 _ rfl; rwa [Nat.zero_add] at this) (fun h => h)
  have y1 : (w.alloc (.cells #[.int .i64 0, .int .i64 0] 27)).cell? ⟨hb, 1, none⟩ = some (.int .i64 e.x.id) := E.cell (by have := r0 1 _ rfl; rwa [Nat.zero_add] at this) (fun h => h)
  have hz : ((es.length : Int) == 0) = false := beq_eq_false_iff_ne.2 (by omega)
  have hpz : (0 : Int) < (es.length : Int) := by omega
  clear hq he r0 E hh2 hs hl
  go_enter Try.func33, Try.ntmps33
  go_wp2
  refine bodyPost_ret (res_ct rfl _ _ w.heap.size [.int .i64 e.x.key, .int .i64 e.x.id] (by rfl) ?_ Try.underlying27 rfl (by kernel_rfl)) rfl ?_
  · refine box_range (L := [.int .i64 e.x.key, .int .i64 e.x.id]) (t := 27) ?_ 0 _ (fun j v h => by rw [Nat.zero_add]; exact h)
    exact heap_alloc_new w _
  · exact ⟨rfl, (Below.refl _ _).alloc (Nat.le_refl _) _⟩
end Go.Proofs.Ytepfbhigeghjjaa.Q
