/- The queue at K.O2: what its entries are, how they are compared. The queue at K.O2: two entries exchanged. The queue at K.O2: which of two entries leaves before the other. The queue at K.O2: the way up. The queue at K.O2: the way down. The queue at K.O2: Push. The queue at K.O2: Pop. The queue at K.O2: New, and what only looks. The queue at K.O2 as its callers see it. -/
import Derived.Test.YtepfbhigeghjjaaQEi
import Derived.Test.YtepfbhigeghjjaaK56
import Derived.Test.YtepfbhigeghjjaaProg
import Derived.Test.YtepfbhigeghjjaaQ3
import Derived.Test.YtepfbhigeghjjaaWLast
import Derived.Below
import Derived.Deep.Draws
import Derived.Deep.AppendLies
import Derived.Maps.AppendAt
import Derived.OwnWalk
import Derived.Laws.BytesArg
import Derived.Laws.MakeOwn
import Derived.Laws.OwnMore
import Derived.Deep.OwnRows
import Derived.Tactics
import Derived.Lib.ConvBytes
import Derived.Laws.Slices
import Derived.RowKit3
import Derived.WideLaws
import Derived.Deep.DeepCutAuto
import Derived.Deep.CutBlock
import Derived.Deep.RegionHeld3
import Derived.Laws.Rows
import Derived.Lib.AppendStr
import Derived.ArgAppend
import Derived.Laws.IdiomCopy
import Derived.RowKit
import Derived.WalkKit
import Derived.KernelRfl
import Derived.Deep.LoopGhost
import Derived.Deep.QuietTactic
import Derived.BigQuiet
import Derived.Lib.Hide
import Derived.Test.YtepfbhigeghjjaaQ4
import Derived.Test.YtepfbhigeghjjaaQ5
namespace Go.Proofs.Ytepfbhigeghjjaa.Q
open Go.RowKit Go.Proofs.YtepfbhigeghjjaaW.PrintLast
set_option linter.unusedVariables false
set_option linter.unusedSimpArgs false

instance : Cells K.O2 := ⟨2, fun x => [.int .i64 x.cost, .int .i64 x.node], fun _ => rfl, fun x v hv => by simp at hv; rcases hv with rfl | rfl <;> rfl⟩
def lessO : Value := .func (.func 91) #[] #[]
instance : Lt K.O2 := ⟨fun x => x.cost, fun _ => 0⟩

theorem lessf_O (x y : K.O2) (w : World) : Calls Try.prog 91 #[.agg (Cells.cs x).toArray, .agg (Cells.cs y).toArray] w fun e w' => e = .returned (.bool (Lt.lt x y)) ∧ Below w.heap.size w w' := by
  obtain ⟨k1, i1⟩ := x
  obtain ⟨k2, i2⟩ := y
  have hl : Lt.lt (⟨k1, i1⟩ : K.O2) ⟨k2, i2⟩ = decide (k1 < k2) := by
    show decide (k1 < k2 ∨ k1 = k2 ∧ (0 : Int) < 0) = _
    exact decide_eq_decide.2 (by omega)
  rw [hl]
  clear hl
  show Calls Try.prog 91 #[.agg #[.int .i64 k1, .int .i64 i1], .agg #[.int .i64 k2, .int .i64 i2]] w fun e w' => e = .returned (.bool (decide (k1 < k2))) ∧ Below w.heap.size w w'
  go_enter Try.func91, Try.ntmps91
  go_wp2
  go_ret
  exact ⟨rfl, ((Below.refl _ _).alloc (Nat.le_refl _) _).alloc (by simp) _⟩
end Go.Proofs.Ytepfbhigeghjjaa.Q
namespace Go.Proofs.Ytepfbhigeghjjaa.Q
open Go.RowKit Go.Proofs.YtepfbhigeghjjaaW.PrintLast
set_option linter.unusedVariables false
set_option linter.unusedSimpArgs false

/-! ### swap */ -/
set_option maxHeartbeats 2000000 in
set_option maxRecDepth 100000 in
theorem swap_O {B : Nat} {w : World} {g mb : Nat} {hv : Value} {es : List (En K.O2)} {nx ck : Int} (hq : IsQ 138 140 lessO B w g hv mb es nx ck) (i j : Nat) (a b : En K.O2) (hi : es[i]? = some a) (hj : es[j]? = some b) (hlen : es.length ≤ 1000000000) :
    Calls Try.prog 98 #[.pointer (some ⟨g, 0, none⟩), .int .i64 i, .int .i64 j] w fun e w' => e = .returned (.tuple #[]) ∧ IsQ 138 140 lessO B w' g hv mb (swp es i j) nx ck ∧ Eff (fun k => some k = hv.ownBlock ∨ k = mb) w w' := by
  have hil : i < es.length := (List.getElem?_eq_some_iff.1 hi).1
  have hjl : j < es.length := (List.getElem?_eq_some_iff.1 hj).1
  obtain ⟨hb, cap, cur, rfl, hB, hh, hc, hm, hs, hl⟩ := hq.row.form (by omega)
  clear hh hl hs cur
  obtain ⟨l, clk, hml, hf⟩ := hq.map
  have fa := Lib.hid (getL_find (l := l) (k := a.h) (v := i) (by rw [← hf]; exact (hidx_some hq.nd).2 ⟨i, a, hi, rfl, rfl⟩))
  obtain ⟨xb, fb0⟩ := getL_find (l := l) (k := b.h) (v := j) (by rw [← hf]; exact (hidx_some hq.nd).2 ⟨j, b, hj, rfl, rfl⟩)
  have fb := Lib.hid fb0
  have c1 : w.cell? ⟨g, 1, none⟩ = some (.slice (some ⟨hb, 0, none⟩) es.length cap) := by simp [World.cell?, hq.blk]
  have R : Hid (Row 140 B w.drew (.slice (some ⟨hb, 0, none⟩) es.length cap) es) := hq.row
  have R1 : Hid (Row 140 B (w.drew.setCells hb (i * 4) (enc b)) (.slice (some ⟨hb, 0, none⟩) es.length cap) (es.set i b)) := R.out.store i hil b
  obtain ⟨W2, hW2⟩ : ∃ W2, W2 = (w.drew.setCells hb (i * 4) (enc b)).setCells hb (j * 4) (enc a) := ⟨_, rfl⟩
  have R2 : Hid (Row 140 B W2 (.slice (some ⟨hb, 0, none⟩) es.length cap) (swp es i j)) := by
    have := R1.out.store j (by rw [List.length_set]; exact hjl) a
    rw [hW2, swp_eq hi hj]
    exact this
  have e2 : Hid (Eff (fun k => k = hb) w W2) := by
    rw [hW2]
    have h1 := (eff_setCells hb (enc b) (i * 4) w.drew).1
    have h2 := (eff_setCells hb (enc a) (j * 4) (w.drew.setCells hb (i * 4) (enc b))).1
    exact (((Eff.refl _ w).drew.trans h1 (fun _ h => .inl h)).trans h2 (fun _ h => .inl h))
  have ng : hb ≠ g := fun e => hq.row.ne hq.blk (by decide) (by rw [e]; rfl)
  have nm : hb ≠ mb := fun e => hq.row.neM hq.map (by rw [e]; rfl)
  have gm : Hid (¬ g = mb) := fun e => by have := hq.blk; rw [e, hml.1] at this; cases this
  have bm : Hid (¬ hb = mb) := nm
  have HM2 : Hid (MapL W2.drew mb l clk) := hml.eff (S := fun k => k = hb) e2.out.drew (Ne.symm nm)
  have b2 : W2.heap[g]? = some (.cells #[lessO, .slice (some ⟨hb, 0, none⟩) es.length cap, .map (some mb), .int .i64 nx, .int .i64 ck] 138 (0, 0)) := e2.out.heap hq.blk (Ne.symm ng)
  have d1 : W2.cell? ⟨g, 1, none⟩ = some (.slice (some ⟨hb, 0, none⟩) es.length cap) := by simp [World.cell?, b2]
  have d2 : W2.cell? ⟨g, 2, none⟩ = some (.map (some mb)) := by simp [World.cell?, b2]
  have d3 : W2.cell? ⟨hb, i * 4 + 2, none⟩ = some (.int .i64 b.h) := by
    by_cases e : i = j
    · subst e
      rw [hi] at hj
      cases hj
      exact R2.out.range i a (by rw [swp_get hi hi, if_pos rfl]) 2 _ rfl
    · exact R2.out.range i b (by rw [swp_get hi hj, if_neg e, if_pos rfl]) 2 _ rfl
  have d4 : W2.cell? ⟨hb, j * 4 + 2, none⟩ = some (.int .i64 a.h) := R2.out.range j a (by rw [swp_get hi hj, if_pos rfl]) 2 _ rfl
  have HQ := Lib.hid hq
  have HB2 := Lib.hid b2
  have HF := Lib.hid hf
  have hli : (i : Int) < (es.length : Int) := by omega
  have hlj : (j : Int) < (es.length : Int) := by omega
  have Hi := Lib.hid hi
  have Hj := Lib.hid hj
  have fab : Hid (∃ x, l.find? (·.1 == a.h) = some x ∧ x ∈ l ∧ x.1 = a.h) := by
    obtain ⟨x, h1, h2, h3, _⟩ := fa.out
    exact ⟨x, h1, h2, h3⟩
  clear hml hq b2 hf hc hB fb0 fa ng nm hi hj
  have D := Lib.hid (And.intro d1 (And.intro d2 (And.intro d3 d4)))
  clear d1 d2 d3 d4
  go_enter Try.func98, Try.ntmps98
  go_wp2_with fail
  refine start_ (n := 28) (S := fun w' => w'.cell? ⟨g, 1, none⟩ = some (.slice (some ⟨hb, 0, none⟩) es.length cap) ∧ w'.rangeAt hb (j * 4) (enc b) ∧ w'.rangeAt hb (i * 4) (enc a)) (ds := [25, 27]) #[false, false, false, false, false, false, false, false, false, false, false, false, false, false, false, false, false, false, false, false, false, false, false, false, false, false, false, false] (by kernel_rfl) rfl rfl ⟨c1, (R.out.range j b Hj.out), (R.out.range i a Hi.out)⟩ (fun hHeld => ?_)
  refine pure_ (i := 0) (N := some 6) (v := ?_) (a' := ?_) #[true, false, false, false, false, false, false, false, false, false, false, false, false, false, false, false, false, false, false, false, false, false, false, false, false, false, false, false] rfl rfl (by kernel_rfl) (fun _ _ _ h => h) (Or.inl ⟨by rfl, ?_⟩) ?_ ?_
  rotate_left
  · intro w'
    go_simp
    with_reducible rfl
  rotate_left
  · simp only [Act.put, List.setIfInBounds_toArray, List.set_cons_zero, List.set_cons_succ, i64_w, i32_w]
    rfl
  refine pure_ (i := 1) (N := some 7) (v := ?_) (a' := ?_) #[true, true, false, false, false, false, false, false, false, false, false, false, false, false, false, false, false, false, false, false, false, false, false, false, false, false, false, false] rfl rfl (by kernel_rfl) (fun _ _ _ h => h) (Or.inl ⟨by rfl, ?_⟩) ?_ ?_
  rotate_left
  · intro w'
    go_simp
    with_reducible rfl
  rotate_left
  · simp only [Act.put, List.setIfInBounds_toArray, List.set_cons_zero, List.set_cons_succ, i64_w, i32_w]
    rfl
  refine pure_ (i := 2) (N := some 8) (v := ?_) (a' := ?_) #[true, true, true, false, false, false, false, false, false, false, false, false, false, false, false, false, false, false, false, false, false, false, false, false, false, false, false, false] rfl rfl (by kernel_rfl) (fun _ _ _ h => h) (Or.inl ⟨by rfl, ?_⟩) ?_ ?_
  rotate_left
  · intro w'
    go_simp
    with_reducible rfl
  rotate_left
  · simp only [Act.put, List.setIfInBounds_toArray, List.set_cons_zero, List.set_cons_succ, i64_w, i32_w]
    rfl
  refine pure_ (i := 4) (N := some 10) (v := ?_) (a' := ?_) #[true, true, true, false, true, false, false, false, false, false, false, false, false, false, false, false, false, false, false, false, false, false, false, false, false, false, false, false] rfl rfl (by kernel_rfl) (fun _ _ _ h => h) (Or.inl ⟨by rfl, ?_⟩) ?_ ?_
  rotate_left
  · intro w'
    go_simp
    with_reducible rfl
  rotate_left
  · simp only [Act.put, List.setIfInBounds_toArray, List.set_cons_zero, List.set_cons_succ, i64_w, i32_w]
    rfl
  refine pure_ (i := 5) (N := some 11) (v := ?_) (a' := ?_) #[true, true, true, false, true, true, false, false, false, false, false, false, false, false, false, false, false, false, false, false, false, false, false, false, false, false, false, false] rfl rfl (by kernel_rfl) (fun _ _ _ h => h) (Or.inl ⟨by rfl, ?_⟩) ?_ ?_
  rotate_left
  · intro w'
    go_simp
    with_reducible rfl
  rotate_left
  · simp only [Act.put, List.setIfInBounds_toArray, List.set_cons_zero, List.set_cons_succ, i64_w, i32_w]
    rfl
  refine pure_ (i := 6) (N := some 12) (v := ?_) (a' := ?_) #[true, true, true, false, true, true, true, false, false, false, false, false, false, false, false, false, false, false, false, false, false, false, false, false, false, false, false, false] rfl rfl (by kernel_rfl) (fun _ _ _ h => h) (Or.inl ⟨by rfl, ?_⟩) ?_ ?_
  rotate_left
  · intro w'
    go_simp
    with_reducible rfl
  rotate_left
  · simp only [Act.put, List.setIfInBounds_toArray, List.set_cons_zero, List.set_cons_succ, i64_w, i32_w]
    rfl
  refine pure_ (i := 7) (N := some 13) (v := ?_) (a' := ?_) #[true, true, true, false, true, true, true, true, false, false, false, false, false, false, false, false, false, false, false, false, false, false, false, false, false, false, false, false] rfl rfl (by kernel_rfl) (fun _ _ _ h => h) (Or.inl ⟨by rfl, ?_⟩) ?_ ?_
  rotate_left
  · intro w'
    go_simp
    with_reducible rfl
  rotate_left
  · simp only [Act.put, List.setIfInBounds_toArray, List.set_cons_zero, List.set_cons_succ, i64_w, i32_w]
    rfl
  refine pure_ (i := 9) (N := some 15) (v := ?_) (a' := ?_) #[true, true, true, false, true, true, true, true, false, true, false, false, false, false, false, false, false, false, false, false, false, false, false, false, false, false, false, false] rfl rfl (by kernel_rfl) (fun _ _ _ h => h) (Or.inl ⟨by rfl, ?_⟩) ?_ ?_
  rotate_left
  · intro w'
    go_simp
    with_reducible rfl
  rotate_left
  · simp only [Act.put, List.setIfInBounds_toArray, List.set_cons_zero, List.set_cons_succ, i64_w, i32_w]
    rfl
  refine pure_ (i := 10) (N := some 16) (v := ?_) (a' := ?_) #[true, true, true, false, true, true, true, true, false, true, true, false, false, false, false, false, false, false, false, false, false, false, false, false, false, false, false, false] rfl rfl (by kernel_rfl) (fun _ _ _ h => h) (Or.inl ⟨by rfl, ?_⟩) ?_ ?_
  rotate_left
  · intro w'
    go_simp
    with_reducible rfl
  rotate_left
  · simp only [Act.put, List.setIfInBounds_toArray, List.set_cons_zero, List.set_cons_succ, i64_w, i32_w]
    rfl
  refine pure_ (i := 11) (N := some 17) (v := ?_) (a' := ?_) #[true, true, true, false, true, true, true, true, false, true, true, true, false, false, false, false, false, false, false, false, false, false, false, false, false, false, false, false] rfl rfl (by kernel_rfl) (fun _ _ _ h => h) (Or.inl ⟨by rfl, ?_⟩) ?_ ?_
  rotate_left
  · intro w'
    go_simp
    with_reducible rfl
  rotate_left
  · simp only [Act.put, List.setIfInBounds_toArray, List.set_cons_zero, List.set_cons_succ, i64_w, i32_w]
    rfl
  refine pure_ (i := 12) (N := some 18) (v := ?_) (a' := ?_) #[true, true, true, false, true, true, true, true, false, true, true, true, true, false, false, false, false, false, false, false, false, false, false, false, false, false, false, false] rfl rfl (by kernel_rfl) (fun _ _ _ h => h) (Or.inl ⟨by rfl, ?_⟩) ?_ ?_
  rotate_left
  · intro w'
    go_simp
    with_reducible rfl
  rotate_left
  · simp only [Act.put, List.setIfInBounds_toArray, List.set_cons_zero, List.set_cons_succ, i64_w, i32_w]
    rfl
  refine pure_ (i := 14) (N := some 20) (v := ?_) (a' := ?_) #[true, true, true, false, true, true, true, true, false, true, true, true, true, false, true, false, false, false, false, false, false, false, false, false, false, false, false, false] rfl rfl (by kernel_rfl) (fun _ _ _ h => h) (Or.inl ⟨by rfl, ?_⟩) ?_ ?_
  rotate_left
  · intro w'
    go_simp
    with_reducible rfl
  rotate_left
  · simp only [Act.put, List.setIfInBounds_toArray, List.set_cons_zero, List.set_cons_succ, i64_w, i32_w]
    rfl
  refine pure_ (i := 17) (N := some 23) (v := ?_) (a' := ?_) #[true, true, true, false, true, true, true, true, false, true, true, true, true, false, true, false, false, true, false, false, false, false, false, false, false, false, false, false] rfl rfl (by kernel_rfl) (fun _ _ _ h => h) (Or.inl ⟨by rfl, ?_⟩) ?_ ?_
  rotate_left
  · intro w'
    go_simp
    with_reducible rfl
  rotate_left
  · simp only [Act.put, List.setIfInBounds_toArray, List.set_cons_zero, List.set_cons_succ, i64_w, i32_w]
    rfl
  refine pure_ (i := 18) (N := some 24) (v := ?_) (a' := ?_) #[true, true, true, false, true, true, true, true, false, true, true, true, true, false, true, false, false, true, true, false, false, false, false, false, false, false, false, false] rfl rfl (by kernel_rfl) (fun _ _ _ h => h) (Or.inl ⟨by rfl, ?_⟩) ?_ ?_
  rotate_left
  · intro w'
    go_simp
    with_reducible rfl
  rotate_left
  · simp only [Act.put, List.setIfInBounds_toArray, List.set_cons_zero, List.set_cons_succ, i64_w, i32_w]
    rfl
  refine pure_ (i := 19) (N := some 25) (v := ?_) (a' := ?_) #[true, true, true, false, true, true, true, true, false, true, true, true, true, false, true, false, false, true, true, true, false, false, false, false, false, false, false, false] rfl rfl (by kernel_rfl) (fun _ _ _ h => h) (Or.inl ⟨by rfl, ?_⟩) ?_ ?_
  rotate_left
  · intro w'
    go_simp
    with_reducible rfl
  rotate_left
  · simp only [Act.put, List.setIfInBounds_toArray, List.set_cons_zero, List.set_cons_succ, i64_w, i32_w]
    rfl
  refine pure_ (i := 21) (N := some 27) (v := ?_) (a' := ?_) #[true, true, true, false, true, true, true, true, false, true, true, true, true, false, true, false, false, true, true, true, false, true, false, false, false, false, false, false] rfl rfl (by kernel_rfl) (fun _ _ _ h => h) (Or.inl ⟨by rfl, ?_⟩) ?_ ?_
  rotate_left
  · intro w'
    go_simp
    with_reducible rfl
  rotate_left
  · simp only [Act.put, List.setIfInBounds_toArray, List.set_cons_zero, List.set_cons_succ, i64_w, i32_w]
    rfl
  refine take_ (i := 3) (N := some 9) (v := ?_) (a' := ?_) #[true, true, true, true, true, true, true, true, false, true, true, true, true, false, true, false, false, true, true, true, false, true, false, false, false, false, false, false] rfl rfl (by kernel_rfl) (fun _ _ _ h => h) (Or.inl ⟨by rfl, ?_⟩) hHeld ?_ ?_
  rotate_left
  · rintro w' ⟨s0, s1, s2⟩
    go_simp
    with_reducible rfl
  rotate_left
  · simp only [Act.put, List.setIfInBounds_toArray, List.set_cons_zero, List.set_cons_succ, i64_w, i32_w]
    rfl
  refine take_ (i := 8) (N := some 14) (v := ?_) (a' := ?_) #[true, true, true, true, true, true, true, true, true, true, true, true, true, false, true, false, false, true, true, true, false, true, false, false, false, false, false, false] rfl rfl (by kernel_rfl) (fun _ _ _ h => h) (Or.inl ⟨by rfl, ?_⟩) hHeld ?_ ?_
  rotate_left
  · rintro w' ⟨s0, s1, s2⟩
    go_simp
    with_reducible rfl
  rotate_left
  · simp only [Act.put, List.setIfInBounds_toArray, List.set_cons_zero, List.set_cons_succ, i64_w, i32_w]
    rfl
  refine take_ (i := 13) (N := some 19) (v := ?_) (a' := ?_) #[true, true, true, true, true, true, true, true, true, true, true, true, true, true, true, false, false, true, true, true, false, true, false, false, false, false, false, false] rfl rfl (by kernel_rfl) (fun _ _ _ h => h) (Or.inl ⟨by rfl, ?_⟩) hHeld ?_ ?_
  rotate_left
  · rintro w' ⟨s0, s1, s2⟩
    go_simp
    with_reducible rfl
  rotate_left
  · simp only [Act.put, List.setIfInBounds_toArray, List.set_cons_zero, List.set_cons_succ, i64_w, i32_w]
    rfl
  refine pure_ (i := 15) (N := some 21) (v := ?_) (a' := ?_) #[true, true, true, true, true, true, true, true, true, true, true, true, true, true, true, true, false, true, true, true, false, true, false, false, false, false, false, false] rfl rfl (by kernel_rfl) (fun _ _ _ h => h) (Or.inl ⟨by rfl, ?_⟩) ?_ ?_
  rotate_left
  · intro w'
    go_simp
    with_reducible rfl
  rotate_left
  · simp only [Act.put, List.setIfInBounds_toArray, List.set_cons_zero, List.set_cons_succ, i64_w, i32_w]
    rfl
  refine take_ (i := 16) (N := some 22) (a' := ?_) #[true, true, true, true, true, true, true, true, true, true, true, true, true, true, true, true, true, true, true, true, false, true, false, false, false, false, false, false] rfl rfl (by kernel_rfl) (fun _ _ _ h => h) (yieldsIf_load_mid (by rfl) 140 _ rfl hb (j * 4) (by rfl) (enc b) _ (fun w' h => h.2.1) Try.underlying140 rfl (by kernel_rfl)) hHeld ?_ ?_
  rotate_left
  · simp only [Act.put, List.setIfInBounds_toArray, List.set_cons_zero, List.set_cons_succ, i64_w, i32_w]
    rfl
  refine take_ (i := 20) (N := some 26) (v := ?_) (a' := ?_) #[true, true, true, true, true, true, true, true, true, true, true, true, true, true, true, true, true, true, true, true, true, true, false, false, false, false, false, false] rfl rfl (by kernel_rfl) (fun _ _ _ h => h) (Or.inl ⟨by rfl, ?_⟩) hHeld ?_ ?_
  rotate_left
  · rintro w' ⟨s0, s1, s2⟩
    go_simp
    with_reducible rfl
  rotate_left
  · simp only [Act.put, List.setIfInBounds_toArray, List.set_cons_zero, List.set_cons_succ, i64_w, i32_w]
    rfl
  refine pure_ (i := 22) (N := some 28) (v := ?_) (a' := ?_) #[true, true, true, true, true, true, true, true, true, true, true, true, true, true, true, true, true, true, true, true, true, true, true, false, false, false, false, false] rfl rfl (by kernel_rfl) (fun _ _ _ h => h) (Or.inl ⟨by rfl, ?_⟩) ?_ ?_
  rotate_left
  · intro w'
    go_simp
    with_reducible rfl
  rotate_left
  · simp only [Act.put, List.setIfInBounds_toArray, List.set_cons_zero, List.set_cons_succ, i64_w, i32_w]
    rfl
  refine take_ (i := 23) (N := some 29) (a' := ?_) #[true, true, true, true, true, true, true, true, true, true, true, true, true, true, true, true, true, true, true, true, true, true, true, true, false, false, false, false] rfl rfl (by kernel_rfl) (fun _ _ _ h => h) (yieldsIf_load_mid (by rfl) 140 _ rfl hb (i * 4) (by rfl) (enc a) _ (fun w' h => h.2.2) Try.underlying140 rfl (by kernel_rfl)) hHeld ?_ ?_
  rotate_left
  · simp only [Act.put, List.setIfInBounds_toArray, List.set_cons_zero, List.set_cons_succ, i64_w, i32_w]
    rfl
  refine pure_ (i := 24) (N := some 30) (v := ?_) (a' := ?_) #[true, true, true, true, true, true, true, true, true, true, true, true, true, true, true, true, true, true, true, true, true, true, true, true, true, false, false, false] rfl rfl (by kernel_rfl) (fun _ _ _ h => h) (Or.inl ⟨by rfl, ?_⟩) ?_ ?_
  rotate_left
  · intro w'
    go_simp
    with_reducible rfl
  rotate_left
  · simp only [Act.put, List.setIfInBounds_toArray, List.set_cons_zero, List.set_cons_succ, i64_w, i32_w]
    rfl
  refine last_ (i := 25) (N := none) #[true, true, true, true, true, true, true, true, true, true, true, true, true, true, true, true, true, true, true, true, true, true, true, true, true, true, false, false] rfl rfl (by kernel_rfl) (by decide) (fun K hK => ?_)
  refine skip_ (w1 := w.drew.setCells hb (i * 4) (enc b)) (by rfl) rfl (run_u (run_storeAt_mid _ hb (i * 4) 140 (enc b).toArray (R.out.there i hil) (by kernel_rfl) (enc_all b))) ?_
  refine hK.out _ _ ?_
  clear hK K
  refine pure_ (i := 26) (N := some 31) (v := ?_) (a' := ?_) #[true, true, true, true, true, true, true, true, true, true, true, true, true, true, true, true, true, true, true, true, true, true, true, true, true, true, true, false] rfl rfl (by kernel_rfl) (fun _ _ _ h => h) (Or.inl ⟨by rfl, ?_⟩) ?_ ?_
  rotate_left
  · intro w'
    go_simp
    with_reducible rfl
  rotate_left
  · simp only [Act.put, List.setIfInBounds_toArray, List.set_cons_zero, List.set_cons_succ, i64_w, i32_w]
    rfl
  refine last_ (i := 27) (N := none) #[true, true, true, true, true, true, true, true, true, true, true, true, true, true, true, true, true, true, true, true, true, true, true, true, true, true, true, true] rfl rfl (by kernel_rfl) (by decide) (fun K hK => ?_)
  refine skip_ (w1 := (w.drew.setCells hb (i * 4) (enc b)).setCells hb (j * 4) (enc a)) (by rfl) rfl (run_u (run_storeAt_mid _ hb (j * 4) 140 (enc a).toArray (R1.out.there j (by rw [List.length_set]; exact hjl)) (by kernel_rfl) (enc_all a))) ?_
  refine hK.out _ _ ?_
  clear hK K
  refine done_ (by kernel_rfl) ?_
  rw [← hW2]
  clear hW2 c1
  obtain ⟨d1, d2, d3, d4⟩ := D.out
  go_wp2_with fail
  refine start_ (n := 32) (S := fun w' => w'.cell? ⟨g, 1, none⟩ = some (.slice (some ⟨hb, 0, none⟩) es.length cap) ∧ w'.cell? ⟨g, 2, none⟩ = some (.map (some mb)) ∧ w'.cell? ⟨hb, i * 4 + 2, none⟩ = some (.int .i64 b.h) ∧ w'.cell? ⟨hb, j * 4 + 2, none⟩ = some (.int .i64 a.h)) (ds := []) #[false, false, false, false, false, false, false, false, false, false, false, false, false, false, false, false, false, false, false, false, false, false, false, false, false, false, false, false, false, false, false, false] (by kernel_rfl) rfl rfl ⟨d1, d2, d3, d4⟩ (fun hHeld => ?_)
  refine pure_ (i := 0) (N := some 32) (v := ?_) (a' := ?_) #[true, false, false, false, false, false, false, false, false, false, false, false, false, false, false, false, false, false, false, false, false, false, false, false, false, false, false, false, false, false, false, false] rfl rfl (by kernel_rfl) (fun _ _ _ h => h) (Or.inl ⟨by rfl, ?_⟩) ?_ ?_
  rotate_left
  · intro w'
    go_simp
    with_reducible rfl
  rotate_left
  · simp only [Act.put, List.setIfInBounds_toArray, List.set_cons_zero, List.set_cons_succ, i64_w, i32_w]
    rfl
  refine pure_ (i := 1) (N := some 33) (v := ?_) (a' := ?_) #[true, true, false, false, false, false, false, false, false, false, false, false, false, false, false, false, false, false, false, false, false, false, false, false, false, false, false, false, false, false, false, false] rfl rfl (by kernel_rfl) (fun _ _ _ h => h) (Or.inl ⟨by rfl, ?_⟩) ?_ ?_
  rotate_left
  · intro w'
    go_simp
    with_reducible rfl
  rotate_left
  · simp only [Act.put, List.setIfInBounds_toArray, List.set_cons_zero, List.set_cons_succ, i64_w, i32_w]
    rfl
  refine pure_ (i := 2) (N := some 34) (v := ?_) (a' := ?_) #[true, true, true, false, false, false, false, false, false, false, false, false, false, false, false, false, false, false, false, false, false, false, false, false, false, false, false, false, false, false, false, false] rfl rfl (by kernel_rfl) (fun _ _ _ h => h) (Or.inl ⟨by rfl, ?_⟩) ?_ ?_
  rotate_left
  · intro w'
    go_simp
    with_reducible rfl
  rotate_left
  · simp only [Act.put, List.setIfInBounds_toArray, List.set_cons_zero, List.set_cons_succ, i64_w, i32_w]
    rfl
  refine pure_ (i := 4) (N := some 36) (v := ?_) (a' := ?_) #[true, true, true, false, true, false, false, false, false, false, false, false, false, false, false, false, false, false, false, false, false, false, false, false, false, false, false, false, false, false, false, false] rfl rfl (by kernel_rfl) (fun _ _ _ h => h) (Or.inl ⟨by rfl, ?_⟩) ?_ ?_
  rotate_left
  · intro w'
    go_simp
    with_reducible rfl
  rotate_left
  · simp only [Act.put, List.setIfInBounds_toArray, List.set_cons_zero, List.set_cons_succ, i64_w, i32_w]
    rfl
  refine pure_ (i := 5) (N := some 37) (v := ?_) (a' := ?_) #[true, true, true, false, true, true, false, false, false, false, false, false, false, false, false, false, false, false, false, false, false, false, false, false, false, false, false, false, false, false, false, false] rfl rfl (by kernel_rfl) (fun _ _ _ h => h) (Or.inl ⟨by rfl, ?_⟩) ?_ ?_
  rotate_left
  · intro w'
    go_simp
    with_reducible rfl
  rotate_left
  · simp only [Act.put, List.setIfInBounds_toArray, List.set_cons_zero, List.set_cons_succ, i64_w, i32_w]
    rfl
  refine pure_ (i := 6) (N := some 38) (v := ?_) (a' := ?_) #[true, true, true, false, true, true, true, false, false, false, false, false, false, false, false, false, false, false, false, false, false, false, false, false, false, false, false, false, false, false, false, false] rfl rfl (by kernel_rfl) (fun _ _ _ h => h) (Or.inl ⟨by rfl, ?_⟩) ?_ ?_
  rotate_left
  · intro w'
    go_simp
    with_reducible rfl
  rotate_left
  · simp only [Act.put, List.setIfInBounds_toArray, List.set_cons_zero, List.set_cons_succ, i64_w, i32_w]
    rfl
  refine pure_ (i := 8) (N := some 40) (v := ?_) (a' := ?_) #[true, true, true, false, true, true, true, false, true, false, false, false, false, false, false, false, false, false, false, false, false, false, false, false, false, false, false, false, false, false, false, false] rfl rfl (by kernel_rfl) (fun _ _ _ h => h) (Or.inl ⟨by rfl, ?_⟩) ?_ ?_
  rotate_left
  · intro w'
    go_simp
    with_reducible rfl
  rotate_left
  · simp only [Act.put, List.setIfInBounds_toArray, List.set_cons_zero, List.set_cons_succ, i64_w, i32_w]
    rfl
  refine pure_ (i := 12) (N := some 44) (v := ?_) (a' := ?_) #[true, true, true, false, true, true, true, false, true, false, false, false, true, false, false, false, false, false, false, false, false, false, false, false, false, false, false, false, false, false, false, false] rfl rfl (by kernel_rfl) (fun _ _ _ h => h) (Or.inl ⟨by rfl, ?_⟩) ?_ ?_
  rotate_left
  · intro w'
    go_simp
    with_reducible rfl
  rotate_left
  · simp only [Act.put, List.setIfInBounds_toArray, List.set_cons_zero, List.set_cons_succ, i64_w, i32_w]
    rfl
  refine pure_ (i := 13) (N := some 45) (v := ?_) (a' := ?_) #[true, true, true, false, true, true, true, false, true, false, false, false, true, true, false, false, false, false, false, false, false, false, false, false, false, false, false, false, false, false, false, false] rfl rfl (by kernel_rfl) (fun _ _ _ h => h) (Or.inl ⟨by rfl, ?_⟩) ?_ ?_
  rotate_left
  · intro w'
    go_simp
    with_reducible rfl
  rotate_left
  · simp only [Act.put, List.setIfInBounds_toArray, List.set_cons_zero, List.set_cons_succ, i64_w, i32_w]
    rfl
  refine pure_ (i := 14) (N := some 46) (v := ?_) (a' := ?_) #[true, true, true, false, true, true, true, false, true, false, false, false, true, true, true, false, false, false, false, false, false, false, false, false, false, false, false, false, false, false, false, false] rfl rfl (by kernel_rfl) (fun _ _ _ h => h) (Or.inl ⟨by rfl, ?_⟩) ?_ ?_
  rotate_left
  · intro w'
    go_simp
    with_reducible rfl
  rotate_left
  · simp only [Act.put, List.setIfInBounds_toArray, List.set_cons_zero, List.set_cons_succ, i64_w, i32_w]
    rfl
  refine pure_ (i := 16) (N := some 48) (v := ?_) (a' := ?_) #[true, true, true, false, true, true, true, false, true, false, false, false, true, true, true, false, true, false, false, false, false, false, false, false, false, false, false, false, false, false, false, false] rfl rfl (by kernel_rfl) (fun _ _ _ h => h) (Or.inl ⟨by rfl, ?_⟩) ?_ ?_
  rotate_left
  · intro w'
    go_simp
    with_reducible rfl
  rotate_left
  · simp only [Act.put, List.setIfInBounds_toArray, List.set_cons_zero, List.set_cons_succ, i64_w, i32_w]
    rfl
  refine pure_ (i := 17) (N := some 49) (v := ?_) (a' := ?_) #[true, true, true, false, true, true, true, false, true, false, false, false, true, true, true, false, true, true, false, false, false, false, false, false, false, false, false, false, false, false, false, false] rfl rfl (by kernel_rfl) (fun _ _ _ h => h) (Or.inl ⟨by rfl, ?_⟩) ?_ ?_
  rotate_left
  · intro w'
    go_simp
    with_reducible rfl
  rotate_left
  · simp only [Act.put, List.setIfInBounds_toArray, List.set_cons_zero, List.set_cons_succ, i64_w, i32_w]
    rfl
  refine pure_ (i := 18) (N := some 50) (v := ?_) (a' := ?_) #[true, true, true, false, true, true, true, false, true, false, false, false, true, true, true, false, true, true, true, false, false, false, false, false, false, false, false, false, false, false, false, false] rfl rfl (by kernel_rfl) (fun _ _ _ h => h) (Or.inl ⟨by rfl, ?_⟩) ?_ ?_
  rotate_left
  · intro w'
    go_simp
    with_reducible rfl
  rotate_left
  · simp only [Act.put, List.setIfInBounds_toArray, List.set_cons_zero, List.set_cons_succ, i64_w, i32_w]
    rfl
  refine pure_ (i := 20) (N := some 52) (v := ?_) (a' := ?_) #[true, true, true, false, true, true, true, false, true, false, false, false, true, true, true, false, true, true, true, false, true, false, false, false, false, false, false, false, false, false, false, false] rfl rfl (by kernel_rfl) (fun _ _ _ h => h) (Or.inl ⟨by rfl, ?_⟩) ?_ ?_
  rotate_left
  · intro w'
    go_simp
    with_reducible rfl
  rotate_left
  · simp only [Act.put, List.setIfInBounds_toArray, List.set_cons_zero, List.set_cons_succ, i64_w, i32_w]
    rfl
  refine pure_ (i := 24) (N := some 56) (v := ?_) (a' := ?_) #[true, true, true, false, true, true, true, false, true, false, false, false, true, true, true, false, true, true, true, false, true, false, false, false, true, false, false, false, false, false, false, false] rfl rfl (by kernel_rfl) (fun _ _ _ h => h) (Or.inl ⟨by rfl, ?_⟩) ?_ ?_
  rotate_left
  · intro w'
    go_simp
    with_reducible rfl
  rotate_left
  · simp only [Act.put, List.setIfInBounds_toArray, List.set_cons_zero, List.set_cons_succ, i64_w, i32_w]
    rfl
  refine pure_ (i := 25) (N := some 57) (v := ?_) (a' := ?_) #[true, true, true, false, true, true, true, false, true, false, false, false, true, true, true, false, true, true, true, false, true, false, false, false, true, true, false, false, false, false, false, false] rfl rfl (by kernel_rfl) (fun _ _ _ h => h) (Or.inl ⟨by rfl, ?_⟩) ?_ ?_
  rotate_left
  · intro w'
    go_simp
    with_reducible rfl
  rotate_left
  · simp only [Act.put, List.setIfInBounds_toArray, List.set_cons_zero, List.set_cons_succ, i64_w, i32_w]
    rfl
  refine take_ (i := 3) (N := some 35) (v := ?_) (a' := ?_) #[true, true, true, true, true, true, true, false, true, false, false, false, true, true, true, false, true, true, true, false, true, false, false, false, true, true, false, false, false, false, false, false] rfl rfl (by kernel_rfl) (fun _ _ _ h => h) (Or.inl ⟨by rfl, ?_⟩) hHeld ?_ ?_
  rotate_left
  · rintro w' ⟨s0, s1, s2, s3⟩
    go_simp
    with_reducible rfl
  rotate_left
  · simp only [Act.put, List.setIfInBounds_toArray, List.set_cons_zero, List.set_cons_succ, i64_w, i32_w]
    rfl
  refine take_ (i := 7) (N := some 39) (v := ?_) (a' := ?_) #[true, true, true, true, true, true, true, true, true, false, false, false, true, true, true, false, true, true, true, false, true, false, false, false, true, true, false, false, false, false, false, false] rfl rfl (by kernel_rfl) (fun _ _ _ h => h) (Or.inl ⟨by rfl, ?_⟩) hHeld ?_ ?_
  rotate_left
  · rintro w' ⟨s0, s1, s2, s3⟩
    go_simp
    with_reducible rfl
  rotate_left
  · simp only [Act.put, List.setIfInBounds_toArray, List.set_cons_zero, List.set_cons_succ, i64_w, i32_w]
    rfl
  refine pure_ (i := 9) (N := some 41) (v := ?_) (a' := ?_) #[true, true, true, true, true, true, true, true, true, true, false, false, true, true, true, false, true, true, true, false, true, false, false, false, true, true, false, false, false, false, false, false] rfl rfl (by kernel_rfl) (fun _ _ _ h => h) (Or.inl ⟨by rfl, ?_⟩) ?_ ?_
  rotate_left
  · intro w'
    go_simp
    with_reducible rfl
  rotate_left
  · simp only [Act.put, List.setIfInBounds_toArray, List.set_cons_zero, List.set_cons_succ, i64_w, i32_w]
    rfl
  refine pure_ (i := 10) (N := some 42) (v := ?_) (a' := ?_) #[true, true, true, true, true, true, true, true, true, true, true, false, true, true, true, false, true, true, true, false, true, false, false, false, true, true, false, false, false, false, false, false] rfl rfl (by kernel_rfl) (fun _ _ _ h => h) (Or.inl ⟨by rfl, ?_⟩) ?_ ?_
  rotate_left
  · intro w'
    go_simp
    with_reducible rfl
  rotate_left
  · simp only [Act.put, List.setIfInBounds_toArray, List.set_cons_zero, List.set_cons_succ, i64_w, i32_w]
    rfl
  refine take_ (i := 11) (N := some 43) (v := ?_) (a' := ?_) #[true, true, true, true, true, true, true, true, true, true, true, true, true, true, true, false, true, true, true, false, true, false, false, false, true, true, false, false, false, false, false, false] rfl rfl (by kernel_rfl) (fun _ _ _ h => h) (Or.inl ⟨by rfl, ?_⟩) hHeld ?_ ?_
  rotate_left
  · rintro w' ⟨s0, s1, s2, s3⟩
    go_simp
    with_reducible rfl
  rotate_left
  · simp only [Act.put, List.setIfInBounds_toArray, List.set_cons_zero, List.set_cons_succ, i64_w, i32_w]
    rfl
  refine take_ (i := 15) (N := some 47) (v := ?_) (a' := ?_) #[true, true, true, true, true, true, true, true, true, true, true, true, true, true, true, true, true, true, true, false, true, false, false, false, true, true, false, false, false, false, false, false] rfl rfl (by kernel_rfl) (fun _ _ _ h => h) (Or.inl ⟨by rfl, ?_⟩) hHeld ?_ ?_
  rotate_left
  · rintro w' ⟨s0, s1, s2, s3⟩
    go_simp
    with_reducible rfl
  rotate_left
  · simp only [Act.put, List.setIfInBounds_toArray, List.set_cons_zero, List.set_cons_succ, i64_w, i32_w]
    rfl
  refine take_ (i := 19) (N := some 51) (v := ?_) (a' := ?_) #[true, true, true, true, true, true, true, true, true, true, true, true, true, true, true, true, true, true, true, true, true, false, false, false, true, true, false, false, false, false, false, false] rfl rfl (by kernel_rfl) (fun _ _ _ h => h) (Or.inl ⟨by rfl, ?_⟩) hHeld ?_ ?_
  rotate_left
  · rintro w' ⟨s0, s1, s2, s3⟩
    go_simp
    with_reducible rfl
  rotate_left
  · simp only [Act.put, List.setIfInBounds_toArray, List.set_cons_zero, List.set_cons_succ, i64_w, i32_w]
    rfl
  refine pure_ (i := 21) (N := some 53) (v := ?_) (a' := ?_) #[true, true, true, true, true, true, true, true, true, true, true, true, true, true, true, true, true, true, true, true, true, true, false, false, true, true, false, false, false, false, false, false] rfl rfl (by kernel_rfl) (fun _ _ _ h => h) (Or.inl ⟨by rfl, ?_⟩) ?_ ?_
  rotate_left
  · intro w'
    go_simp
    with_reducible rfl
  rotate_left
  · simp only [Act.put, List.setIfInBounds_toArray, List.set_cons_zero, List.set_cons_succ, i64_w, i32_w]
    rfl
  refine pure_ (i := 22) (N := some 54) (v := ?_) (a' := ?_) #[true, true, true, true, true, true, true, true, true, true, true, true, true, true, true, true, true, true, true, true, true, true, true, false, true, true, false, false, false, false, false, false] rfl rfl (by kernel_rfl) (fun _ _ _ h => h) (Or.inl ⟨by rfl, ?_⟩) ?_ ?_
  rotate_left
  · intro w'
    go_simp
    with_reducible rfl
  rotate_left
  · simp only [Act.put, List.setIfInBounds_toArray, List.set_cons_zero, List.set_cons_succ, i64_w, i32_w]
    rfl
  refine take_ (i := 23) (N := some 55) (v := ?_) (a' := ?_) #[true, true, true, true, true, true, true, true, true, true, true, true, true, true, true, true, true, true, true, true, true, true, true, true, true, true, false, false, false, false, false, false] rfl rfl (by kernel_rfl) (fun _ _ _ h => h) (Or.inl ⟨by rfl, ?_⟩) hHeld ?_ ?_
  rotate_left
  · rintro w' ⟨s0, s1, s2, s3⟩
    go_simp
    with_reducible rfl
  rotate_left
  · simp only [Act.put, List.setIfInBounds_toArray, List.set_cons_zero, List.set_cons_succ, i64_w, i32_w]
    rfl
  refine one_ (i := 26) (N := some 58) #[true, true, true, true, true, true, true, true, true, true, true, true, true, true, true, true, true, true, true, true, true, true, true, true, true, true, true, false, false, false, false, false] rfl rfl (by kernel_rfl) (by decide) (fun K hK => ?_)
  refine value_ (w1 := _) (v := _) (by rfl) rfl (run_v (run_mapEntryL Try.underlying87 Try.underlying3 HM2.out b.h xb fb.out.1)) ?_
  refine hK.out _ _ ⟨hHeld.1, hHeld.2.1, hHeld.2.2.1, hHeld.2.2.2⟩ (fun hHeld => ?_)
  clear hK K
  refine norm_ (a' := ?_) ?_ ?_
  rotate_left
  · show Act.put _ (some 58) _ = _
    simp only [Act.put, List.setIfInBounds_toArray, List.set_cons_zero, List.set_cons_succ, i64_w, i32_w]
    rfl
  refine pure_ (i := 27) (N := some 59) (v := ?_) (a' := ?_) #[true, true, true, true, true, true, true, true, true, true, true, true, true, true, true, true, true, true, true, true, true, true, true, true, true, true, true, true, false, false, false, false] rfl rfl (by kernel_rfl) (fun _ _ _ h => h) (Or.inl ⟨by rfl, ?_⟩) ?_ ?_
  rotate_left
  · intro w'
    go_simp
    with_reducible rfl
  rotate_left
  · simp only [Act.put, List.setIfInBounds_toArray, List.set_cons_zero, List.set_cons_succ, i64_w, i32_w]
    rfl
  refine one_ (i := 28) (N := none) #[true, true, true, true, true, true, true, true, true, true, true, true, true, true, true, true, true, true, true, true, true, true, true, true, true, true, true, true, true, false, false, false] rfl rfl (by kernel_rfl) (by decide) (fun K hK => ?_)
  obtain ⟨w3, hr3, he3, hz3, hm3⟩ := run_entryStoreL (P := Try.prog) (T := 87) HM2.out xb fb.out.2.1 (i : Int)
  refine skip_ (w1 := w3) (by rfl) rfl (run_u hr3) ?_
  refine hK.out _ _ ⟨(he3.cell hHeld.1 gm.out), (he3.cell hHeld.2.1 gm.out), (he3.cell hHeld.2.2.1 bm.out), (he3.cell hHeld.2.2.2 bm.out)⟩ (fun hHeld => ?_)
  clear hK K
  refine one_ (i := 29) (N := some 60) #[true, true, true, true, true, true, true, true, true, true, true, true, true, true, true, true, true, true, true, true, true, true, true, true, true, true, true, true, true, true, false, false] rfl rfl (by kernel_rfl) (by decide) (fun K hK => ?_)
  obtain ⟨xa2, fa2⟩ := keep_find hm3 fab.out
  refine value_ (w1 := _) (v := _) (by rfl) rfl (run_v (run_mapEntryL Try.underlying87 Try.underlying3 hm3 a.h xa2 fa2.1)) ?_
  refine hK.out _ _ ⟨hHeld.1, hHeld.2.1, hHeld.2.2.1, hHeld.2.2.2⟩ (fun hHeld => ?_)
  clear hK K
  refine norm_ (a' := ?_) ?_ ?_
  rotate_left
  · show Act.put _ (some 60) _ = _
    simp only [Act.put, List.setIfInBounds_toArray, List.set_cons_zero, List.set_cons_succ, i64_w, i32_w]
    rfl
  refine pure_ (i := 30) (N := some 61) (v := ?_) (a' := ?_) #[true, true, true, true, true, true, true, true, true, true, true, true, true, true, true, true, true, true, true, true, true, true, true, true, true, true, true, true, true, true, true, false] rfl rfl (by kernel_rfl) (fun _ _ _ h => h) (Or.inl ⟨by rfl, ?_⟩) ?_ ?_
  rotate_left
  · intro w'
    go_simp
    with_reducible rfl
  rotate_left
  · simp only [Act.put, List.setIfInBounds_toArray, List.set_cons_zero, List.set_cons_succ, i64_w, i32_w]
    rfl
  refine one_ (i := 31) (N := none) #[true, true, true, true, true, true, true, true, true, true, true, true, true, true, true, true, true, true, true, true, true, true, true, true, true, true, true, true, true, true, true, true] rfl rfl (by kernel_rfl) (by decide) (fun K hK => ?_)
  obtain ⟨w4, hr4, he4, hz4, hm4⟩ := run_entryStoreL (P := Try.prog) (T := 87) hm3 xa2 fa2.2.1 (j : Int)
  refine skip_ (w1 := w4) (by rfl) rfl (run_u hr4) ?_
  refine hK.out _ _ ⟨(he4.cell hHeld.1 gm.out), (he4.cell hHeld.2.1 gm.out), (he4.cell hHeld.2.2.1 bm.out), (he4.cell hHeld.2.2.2 bm.out)⟩ (fun hHeld => ?_)
  clear hK K
  refine done_ (by kernel_rfl) ?_
  go_wp2_with fail
  go_end0
  have hq := HQ.out
  have nb : ∀ k, some k = (Value.slice (some ⟨hb, 0, none⟩) es.length cap).ownBlock → k = hb := fun k h => by simpa [Value.ownBlock] using h
  refine ⟨rfl, ⟨he4.heap (he3.heap HB2.out gm.out) gm.out, hq.gB, hq.mB, ?_, ?_, swp_nodup hq.nd⟩, ?_⟩
  · have h3 : Row 140 B w3 (.slice (some ⟨hb, 0, none⟩) es.length cap) (swp es i j) := Row.eff (W := W2.drew) R2.out he3 (fun k h => by rw [nb k h.symm]; exact bm.out)
    exact h3.eff he4 (fun k h => by rw [nb k h.symm]; exact bm.out)
  · refine ⟨_, clk, hm4, fun k => ?_⟩
    rw [getL_store hm3.2.1 hm3.2.2.1 fa2.2.1, getL_store HM2.out.2.1 HM2.out.2.2.1 fb.out.2.1, hidx_swp hq.nd Hi.out Hj.out, HF.out k, fa2.2.2, fb.out.2.2.1]
  · refine Eff.trans (T := fun k => k = mb) ?_ (he3.trans he4 (fun _ h => .inl h)) (fun k h => .inl (.inr h))
    exact e2.out.drew.mono (fun k h => .inl (.inl (by rw [h]; rfl)))
end Go.Proofs.Ytepfbhigeghjjaa.Q
namespace Go.Proofs.Ytepfbhigeghjjaa.Q
open Go.RowKit Go.Proofs.YtepfbhigeghjjaaW.PrintLast
set_option linter.unusedVariables false
set_option linter.unusedSimpArgs false

/-! ### before -/
set_option maxHeartbeats 2000000 in
set_option maxRecDepth 100000 in
theorem before_O {B : Nat} {w : World} {g mb : Nat} {hv : Value} {es : List (En K.O2)} {nx ck : Int} (hq : IsQ 138 140 lessO B w g hv mb es nx ck) (i j : Nat) (a b : En K.O2) (hi : es[i]? = some a) (hj : es[j]? = some b) (hlen : es.length ≤ 1000000000) :
    Calls Try.prog 102 #[.pointer (some ⟨g, 0, none⟩), .int .i64 i, .int .i64 j] w fun e w' => e = .returned (.bool (bef a b)) ∧ Below w.heap.size w w' := by
  have hil : i < es.length := (List.getElem?_eq_some_iff.1 hi).1
  have hjl : j < es.length := (List.getElem?_eq_some_iff.1 hj).1
  obtain ⟨hb, cap, cur, rfl, hB, hh, hc, hm, hs, hl⟩ := hq.row.form (by omega)
  have gl : Hid (g < w.heap.size) := (Array.getElem?_eq_some_iff.1 hq.blk).1
  have bl : Hid (hb < w.heap.size) := (Array.getElem?_eq_some_iff.1 hh).1
  clear hh hl hs cur
  have c1 : w.cell? ⟨g, 1, none⟩ = some (.slice (some ⟨hb, 0, none⟩) es.length cap) := by simp [World.cell?, hq.blk]
  have C0 : Hid (w.cell? ⟨g, 0, none⟩ = some lessO) := by show _ = _; simp [World.cell?, hq.blk]
  have R : Hid (Row 140 B w.drew (.slice (some ⟨hb, 0, none⟩) es.length cap) es) := hq.row
  have Hi := Lib.hid hi
  have Hj := Lib.hid hj
  have hli : (i : Int) < (es.length : Int) := by omega
  have hlj : (j : Int) < (es.length : Int) := by omega
  clear hq hc hi hj
  go_enter Try.func102, Try.ntmps102
  go_wp2_with fail
  refine start_ (n := 18) (S := fun w' => w'.cell? ⟨g, 1, none⟩ = some (.slice (some ⟨hb, 0, none⟩) es.length cap) ∧ w'.rangeAt hb (i * 4) (enc a) ∧ w'.rangeAt hb (j * 4) (enc b)) (ds := []) #[false, false, false, false, false, false, false, false, false, false, false, false, false, false, false, false, false, false] (by kernel_rfl) rfl rfl ⟨c1, (R.out.range i a Hi.out), (R.out.range j b Hj.out)⟩ (fun hHeld => ?_)
  refine pure_ (i := 0) (N := some 9) (v := ?_) (a' := ?_) #[true, false, false, false, false, false, false, false, false, false, false, false, false, false, false, false, false, false] rfl rfl (by kernel_rfl) (fun _ _ _ h => h) (Or.inl ⟨by rfl, ?_⟩) ?_ ?_
  rotate_left
  · intro w'
    go_simp
    with_reducible rfl
  rotate_left
  · simp only [Act.put, List.setIfInBounds_toArray, List.set_cons_zero, List.set_cons_succ, i64_w, i32_w]
    rfl
  refine pure_ (i := 1) (N := some 10) (v := ?_) (a' := ?_) #[true, true, false, false, false, false, false, false, false, false, false, false, false, false, false, false, false, false] rfl rfl (by kernel_rfl) (fun _ _ _ h => h) (Or.inl ⟨by rfl, ?_⟩) ?_ ?_
  rotate_left
  · intro w'
    go_simp
    with_reducible rfl
  rotate_left
  · simp only [Act.put, List.setIfInBounds_toArray, List.set_cons_zero, List.set_cons_succ, i64_w, i32_w]
    rfl
  refine pure_ (i := 2) (N := some 11) (v := ?_) (a' := ?_) #[true, true, true, false, false, false, false, false, false, false, false, false, false, false, false, false, false, false] rfl rfl (by kernel_rfl) (fun _ _ _ h => h) (Or.inl ⟨by rfl, ?_⟩) ?_ ?_
  rotate_left
  · intro w'
    go_simp
    with_reducible rfl
  rotate_left
  · simp only [Act.put, List.setIfInBounds_toArray, List.set_cons_zero, List.set_cons_succ, i64_w, i32_w]
    rfl
  refine pure_ (i := 4) (N := some 13) (v := ?_) (a' := ?_) #[true, true, true, false, true, false, false, false, false, false, false, false, false, false, false, false, false, false] rfl rfl (by kernel_rfl) (fun _ _ _ h => h) (Or.inl ⟨by rfl, ?_⟩) ?_ ?_
  rotate_left
  · intro w'
    go_simp
    with_reducible rfl
  rotate_left
  · simp only [Act.put, List.setIfInBounds_toArray, List.set_cons_zero, List.set_cons_succ, i64_w, i32_w]
    rfl
  refine pure_ (i := 7) (N := some 16) (v := ?_) (a' := ?_) #[true, true, true, false, true, false, false, true, false, false, false, false, false, false, false, false, false, false] rfl rfl (by kernel_rfl) (fun _ _ _ h => h) (Or.inl ⟨by rfl, ?_⟩) ?_ ?_
  rotate_left
  · intro w'
    go_simp
    with_reducible rfl
  rotate_left
  · simp only [Act.put, List.setIfInBounds_toArray, List.set_cons_zero, List.set_cons_succ, i64_w, i32_w]
    rfl
  refine pure_ (i := 8) (N := some 17) (v := ?_) (a' := ?_) #[true, true, true, false, true, false, false, true, true, false, false, false, false, false, false, false, false, false] rfl rfl (by kernel_rfl) (fun _ _ _ h => h) (Or.inl ⟨by rfl, ?_⟩) ?_ ?_
  rotate_left
  · intro w'
    go_simp
    with_reducible rfl
  rotate_left
  · simp only [Act.put, List.setIfInBounds_toArray, List.set_cons_zero, List.set_cons_succ, i64_w, i32_w]
    rfl
  refine pure_ (i := 9) (N := some 18) (v := ?_) (a' := ?_) #[true, true, true, false, true, false, false, true, true, true, false, false, false, false, false, false, false, false] rfl rfl (by kernel_rfl) (fun _ _ _ h => h) (Or.inl ⟨by rfl, ?_⟩) ?_ ?_
  rotate_left
  · intro w'
    go_simp
    with_reducible rfl
  rotate_left
  · simp only [Act.put, List.setIfInBounds_toArray, List.set_cons_zero, List.set_cons_succ, i64_w, i32_w]
    rfl
  refine pure_ (i := 11) (N := some 20) (v := ?_) (a' := ?_) #[true, true, true, false, true, false, false, true, true, true, false, true, false, false, false, false, false, false] rfl rfl (by kernel_rfl) (fun _ _ _ h => h) (Or.inl ⟨by rfl, ?_⟩) ?_ ?_
  rotate_left
  · intro w'
    go_simp
    with_reducible rfl
  rotate_left
  · simp only [Act.put, List.setIfInBounds_toArray, List.set_cons_zero, List.set_cons_succ, i64_w, i32_w]
    rfl
  refine take_ (i := 3) (N := some 12) (v := ?_) (a' := ?_) #[true, true, true, true, true, false, false, true, true, true, false, true, false, false, false, false, false, false] rfl rfl (by kernel_rfl) (fun _ _ _ h => h) (Or.inl ⟨by rfl, ?_⟩) hHeld ?_ ?_
  rotate_left
  · rintro w' ⟨s0, s1, s2⟩
    go_simp
    with_reducible rfl
  rotate_left
  · simp only [Act.put, List.setIfInBounds_toArray, List.set_cons_zero, List.set_cons_succ, i64_w, i32_w]
    rfl
  refine pure_ (i := 5) (N := some 14) (v := ?_) (a' := ?_) #[true, true, true, true, true, true, false, true, true, true, false, true, false, false, false, false, false, false] rfl rfl (by kernel_rfl) (fun _ _ _ h => h) (Or.inl ⟨by rfl, ?_⟩) ?_ ?_
  rotate_left
  · intro w'
    go_simp
    with_reducible rfl
  rotate_left
  · simp only [Act.put, List.setIfInBounds_toArray, List.set_cons_zero, List.set_cons_succ, i64_w, i32_w]
    rfl
  refine take_ (i := 6) (N := some 15) (a' := ?_) #[true, true, true, true, true, true, true, true, true, true, false, true, false, false, false, false, false, false] rfl rfl (by kernel_rfl) (fun _ _ _ h => h) (yieldsIf_load_mid (by rfl) 140 _ rfl hb (i * 4) (by rfl) (enc a) _ (fun w' h => h.2.1) Try.underlying140 rfl (by kernel_rfl)) hHeld ?_ ?_
  rotate_left
  · simp only [Act.put, List.setIfInBounds_toArray, List.set_cons_zero, List.set_cons_succ, i64_w, i32_w]
    rfl
  refine take_ (i := 10) (N := some 19) (v := ?_) (a' := ?_) #[true, true, true, true, true, true, true, true, true, true, true, true, false, false, false, false, false, false] rfl rfl (by kernel_rfl) (fun _ _ _ h => h) (Or.inl ⟨by rfl, ?_⟩) hHeld ?_ ?_
  rotate_left
  · rintro w' ⟨s0, s1, s2⟩
    go_simp
    with_reducible rfl
  rotate_left
  · simp only [Act.put, List.setIfInBounds_toArray, List.set_cons_zero, List.set_cons_succ, i64_w, i32_w]
    rfl
  refine pure_ (i := 12) (N := some 21) (v := ?_) (a' := ?_) #[true, true, true, true, true, true, true, true, true, true, true, true, true, false, false, false, false, false] rfl rfl (by kernel_rfl) (fun _ _ _ h => h) (Or.inl ⟨by rfl, ?_⟩) ?_ ?_
  rotate_left
  · intro w'
    go_simp
    with_reducible rfl
  rotate_left
  · simp only [Act.put, List.setIfInBounds_toArray, List.set_cons_zero, List.set_cons_succ, i64_w, i32_w]
    rfl
  refine take_ (i := 13) (N := some 22) (a' := ?_) #[true, true, true, true, true, true, true, true, true, true, true, true, true, true, false, false, false, false] rfl rfl (by kernel_rfl) (fun _ _ _ h => h) (yieldsIf_load_mid (by rfl) 140 _ rfl hb (j * 4) (by rfl) (enc b) _ (fun w' h => h.2.2) Try.underlying140 rfl (by kernel_rfl)) hHeld ?_ ?_
  rotate_left
  · simp only [Act.put, List.setIfInBounds_toArray, List.set_cons_zero, List.set_cons_succ, i64_w, i32_w]
    rfl
  refine join_ (σ := Nat × Nat) 2 #[true, true, true, true, true, true, true, true, true, true, true, true, true, true, true, true, false, false] (fun s => [(7, .pointer (some ⟨s.1, 0, none⟩)), (8, .pointer (some ⟨s.2, 0, none⟩))]) (fun s w' => w'.heap[s.1]? = some (.cells #[.int .i64 0, .int .i64 0, .int .i64 0, .int .i64 0] 140 (0, 0)) ∧ w'.heap[s.2]? = some (.cells #[.int .i64 0, .int .i64 0, .int .i64 0, .int .i64 0] 140 (0, 0)) ∧ s.1 ≠ s.2 ∧ w.heap.size ≤ s.1 ∧ w.heap.size ≤ s.2 ∧ Eff (fun _ => False) w w' ∧ (w'.cell? ⟨g, 1, none⟩ = some (.slice (some ⟨hb, 0, none⟩) es.length cap) ∧ w'.rangeAt hb (i * 4) (enc a) ∧ w'.rangeAt hb (j * 4) (enc b))) ?_ ?_
  rotate_left
  · intro hCont
    refine two_ (i := 14) (j := 15) (Ni := some 7) (Nj := some 8) #[true, true, true, true, true, true, true, true, true, true, true, true, true, true, true, false, false, false] #[true, true, true, true, true, true, true, true, true, true, true, true, true, true, false, true, false, false] rfl rfl rfl rfl (by kernel_rfl) (by decide) (by decide) (fun K hK => ?_) (fun K hK => ?_)
    · skip
      refine value_ (w1 := ?_) (v := ?_) (by rfl) rfl ?_ ?_
      rotate_left 2
      · go_simp
        constructor
        · rfl
        · rfl
      refine hK.out _ _ ⟨((eff_alloc _ _).cell hHeld.1 (fun h => h)), (rangeAt_eff hHeld.2.1 (eff_alloc _ _) (fun h => h)), (rangeAt_eff hHeld.2.2 (eff_alloc _ _) (fun h => h))⟩ (fun hHeld => ?_)
      clear hK K
      refine norm_ (a' := ?_) ?_ ?_
      rotate_left
      · show Act.put _ (some 7) _ = _
        simp only [Act.put, List.setIfInBounds_toArray, List.set_cons_zero, List.set_cons_succ, i64_w, i32_w]
        rfl
      refine one_ (i := 15) (N := some 8) #[true, true, true, true, true, true, true, true, true, true, true, true, true, true, true, true, false, false] rfl rfl (by kernel_rfl) (by decide) (fun K hK => ?_)
      refine value_ (w1 := ?_) (v := ?_) (by rfl) rfl ?_ ?_
      rotate_left 2
      · go_simp
        constructor
        · rfl
        · rfl
      refine hK.out _ _ ⟨((eff_alloc _ _).cell hHeld.1 (fun h => h)), (rangeAt_eff hHeld.2.1 (eff_alloc _ _) (fun h => h)), (rangeAt_eff hHeld.2.2 (eff_alloc _ _) (fun h => h))⟩ (fun hHeld => ?_)
      clear hK K
      refine norm_ (a' := ?_) ?_ ?_
      rotate_left
      · show Act.put _ (some 8) _ = _
        simp only [Act.put, List.setIfInBounds_toArray, List.set_cons_zero, List.set_cons_succ, i64_w, i32_w]
        rfl
      exact norm_ (by simp only [putAll, Act.put, List.setIfInBounds_toArray, List.set_cons_zero, List.set_cons_succ]) (hCont (w.heap.size, w.heap.size + 1) _ ⟨(two_alloc w.drew _ _).1, (two_alloc w.drew _ _).2, by simp, Nat.le_refl _, Nat.le_succ _, ((Eff.refl _ w).drew.alloc _).alloc _, hHeld⟩)
    · skip
      refine value_ (w1 := ?_) (v := ?_) (by rfl) rfl ?_ ?_
      rotate_left 2
      · go_simp
        constructor
        · rfl
        · rfl
      refine hK.out _ _ ⟨((eff_alloc _ _).cell hHeld.1 (fun h => h)), (rangeAt_eff hHeld.2.1 (eff_alloc _ _) (fun h => h)), (rangeAt_eff hHeld.2.2 (eff_alloc _ _) (fun h => h))⟩ (fun hHeld => ?_)
      clear hK K
      refine norm_ (a' := ?_) ?_ ?_
      rotate_left
      · show Act.put _ (some 8) _ = _
        simp only [Act.put, List.setIfInBounds_toArray, List.set_cons_zero, List.set_cons_succ, i64_w, i32_w]
        rfl
      refine one_ (i := 14) (N := some 7) #[true, true, true, true, true, true, true, true, true, true, true, true, true, true, true, true, false, false] rfl rfl (by kernel_rfl) (by decide) (fun K hK => ?_)
      refine value_ (w1 := ?_) (v := ?_) (by rfl) rfl ?_ ?_
      rotate_left 2
      · go_simp
        constructor
        · rfl
        · rfl
      refine hK.out _ _ ⟨((eff_alloc _ _).cell hHeld.1 (fun h => h)), (rangeAt_eff hHeld.2.1 (eff_alloc _ _) (fun h => h)), (rangeAt_eff hHeld.2.2 (eff_alloc _ _) (fun h => h))⟩ (fun hHeld => ?_)
      clear hK K
      refine norm_ (a' := ?_) ?_ ?_
      rotate_left
      · show Act.put _ (some 7) _ = _
        simp only [Act.put, List.setIfInBounds_toArray, List.set_cons_zero, List.set_cons_succ, i64_w, i32_w]
        rfl
      exact norm_ (by simp only [putAll, Act.put, List.setIfInBounds_toArray, List.set_cons_zero, List.set_cons_succ]) (hCont (w.heap.size + 1, w.heap.size) _ ⟨(two_alloc w.drew _ _).2, (two_alloc w.drew _ _).1, by simp, Nat.le_succ _, Nat.le_refl _, ((Eff.refl _ w).drew.alloc _).alloc _, hHeld⟩)
  rintro ⟨p, q⟩ w1 ⟨x1, x2, x3, x4, x5, x6, hHeld⟩
  have X1 := Lib.hid x1
  have X2 := Lib.hid x2
  have X3 := Lib.hid x3
  have X6 := Lib.hid x6
  clear x1 x2 x3 x6
  have p1 : Hid (¬ g = p) := fun e => by have h1 := gl.out; have h2 : w.heap.size ≤ p := x4; omega
  have p2 : Hid (¬ hb = p) := fun e => by have h1 := bl.out; have h2 : w.heap.size ≤ p := x4; omega
  have q1 : Hid (¬ g = q) := fun e => by have h1 := gl.out; have h2 : w.heap.size ≤ q := x5; omega
  have q2 : Hid (¬ hb = q) := fun e => by have h1 := bl.out; have h2 : w.heap.size ≤ q := x5; omega
  refine norm_ (a' := ?_) ?_ ?_
  rotate_left
  · simp only [putAll, Act.put, List.setIfInBounds_toArray, List.set_cons_zero, List.set_cons_succ]
    rfl
  refine one_ (i := 16) (N := none) #[true, true, true, true, true, true, true, true, true, true, true, true, true, true, true, true, true, false] rfl rfl (by kernel_rfl) (by decide) (fun K hK => ?_)
  refine skip_ (w1 := w1.setCells p 0 (enc a)) (by rfl) rfl (run_u (run_storeAt_mid _ p 0 140 (enc a).toArray (box_there X1.out rfl) (by kernel_rfl) (enc_all a))) ?_
  refine hK.out _ _ ⟨((eff_setCells p (enc a) 0 w1).1.cell hHeld.1 p1.out), (rangeAt_eff hHeld.2.1 (eff_setCells p (enc a) 0 w1).1 p2.out), (rangeAt_eff hHeld.2.2 (eff_setCells p (enc a) 0 w1).1 p2.out)⟩ (fun hHeld => ?_)
  clear hK K
  refine one_ (i := 17) (N := none) #[true, true, true, true, true, true, true, true, true, true, true, true, true, true, true, true, true, true] rfl rfl (by kernel_rfl) (by decide) (fun K hK => ?_)
  refine skip_ (w1 := (w1.setCells p 0 (enc a)).setCells q 0 (enc b)) (by rfl) rfl (run_u (run_storeAt_mid _ q 0 140 (enc b).toArray (box_there ((eff_setCells p (enc a) 0 w1).1.heap X2.out (fun h => X3.out h.symm)) rfl) (by kernel_rfl) (enc_all b))) ?_
  refine hK.out _ _ ⟨((eff_setCells q (enc b) 0 _).1.cell hHeld.1 q1.out), (rangeAt_eff hHeld.2.1 (eff_setCells q (enc b) 0 _).1 q2.out), (rangeAt_eff hHeld.2.2 (eff_setCells q (enc b) 0 _).1 q2.out)⟩ (fun hHeld => ?_)
  clear hK K
  refine done_ (by kernel_rfl) ?_
  obtain ⟨W2, hW2⟩ : ∃ W2, W2 = (w1.setCells p 0 (enc a)).setCells q 0 (enc b) := ⟨_, rfl⟩
  rw [← hW2]
  have BP : Hid (W2.heap[p]? = some (.cells (enc a).toArray 140 (0, 0))) := by
    show _ = _
    rw [hW2]
    exact (eff_setCells q (enc b) 0 _).1.heap (box_set X1.out rfl) X3.out
  have BQ : Hid (W2.heap[q]? = some (.cells (enc b).toArray 140 (0, 0))) := by
    show _ = _
    rw [hW2]
    exact box_set ((eff_setCells p (enc a) 0 w1).1.heap X2.out (fun h => X3.out h.symm)) rfl
  have E2 : Hid (Eff (fun _ => False) w W2) := by
    rw [hW2]
    exact (X6.out.trans (eff_setCells p (enc a) 0 w1).1 (fun k hk => .inr (by rw [hk]; exact x4))).trans (eff_setCells q (enc b) 0 _).1 (fun k hk => .inr (by rw [hk]; exact x5))
  clear hHeld hW2 c1 X1 X2 R
  have e0 : W2.cell? ⟨g, 0, none⟩ = some lessO := E2.out.cell C0.out (fun h => h)
  have e1 : W2.rangeAt p 0 (Cells.cs a.x) := box_range BP.out 0 _ (enc_x a)
  have e2 : W2.rangeAt q 0 (Cells.cs b.x) := box_range BQ.out 0 _ (enc_x b)
  go_wp2_with fail
  refine start_ (n := 9) (S := fun w' => w'.cell? ⟨g, 0, none⟩ = some lessO ∧ w'.rangeAt p 0 (Cells.cs a.x) ∧ w'.rangeAt q 0 (Cells.cs b.x)) (ds := []) #[false, false, false, false, false, false, false, false, false] (by kernel_rfl) rfl rfl ⟨e0, e1, e2⟩ (fun hHeld => ?_)
  refine pure_ (i := 0) (N := some 23) (v := ?_) (a' := ?_) #[true, false, false, false, false, false, false, false, false] rfl rfl (by kernel_rfl) (fun _ _ _ h => h) (Or.inl ⟨by rfl, ?_⟩) ?_ ?_
  rotate_left
  · intro w'
    go_simp
    with_reducible rfl
  rotate_left
  · simp only [Act.put, List.setIfInBounds_toArray, List.set_cons_zero, List.set_cons_succ, i64_w, i32_w]
    rfl
  refine pure_ (i := 1) (N := some 24) (v := ?_) (a' := ?_) #[true, true, false, false, false, false, false, false, false] rfl rfl (by kernel_rfl) (fun _ _ _ h => h) (Or.inl ⟨by rfl, ?_⟩) ?_ ?_
  rotate_left
  · intro w'
    go_simp
    with_reducible rfl
  rotate_left
  · simp only [Act.put, List.setIfInBounds_toArray, List.set_cons_zero, List.set_cons_succ, i64_w, i32_w]
    rfl
  refine pure_ (i := 2) (N := some 25) (v := ?_) (a' := ?_) #[true, true, true, false, false, false, false, false, false] rfl rfl (by kernel_rfl) (fun _ _ _ h => h) (Or.inl ⟨by rfl, ?_⟩) ?_ ?_
  rotate_left
  · intro w'
    go_simp
    with_reducible rfl
  rotate_left
  · simp only [Act.put, List.setIfInBounds_toArray, List.set_cons_zero, List.set_cons_succ, i64_w, i32_w]
    rfl
  refine pure_ (i := 4) (N := some 27) (v := ?_) (a' := ?_) #[true, true, true, false, true, false, false, false, false] rfl rfl (by kernel_rfl) (fun _ _ _ h => h) (Or.inl ⟨by rfl, ?_⟩) ?_ ?_
  rotate_left
  · intro w'
    go_simp
    with_reducible rfl
  rotate_left
  · simp only [Act.put, List.setIfInBounds_toArray, List.set_cons_zero, List.set_cons_succ, i64_w, i32_w]
    rfl
  refine pure_ (i := 6) (N := some 29) (v := ?_) (a' := ?_) #[true, true, true, false, true, false, true, false, false] rfl rfl (by kernel_rfl) (fun _ _ _ h => h) (Or.inl ⟨by rfl, ?_⟩) ?_ ?_
  rotate_left
  · intro w'
    go_simp
    with_reducible rfl
  rotate_left
  · simp only [Act.put, List.setIfInBounds_toArray, List.set_cons_zero, List.set_cons_succ, i64_w, i32_w]
    rfl
  refine take_ (i := 3) (N := some 26) (v := ?_) (a' := ?_) #[true, true, true, true, true, false, true, false, false] rfl rfl (by kernel_rfl) (fun _ _ _ h => h) (Or.inl ⟨by rfl, ?_⟩) hHeld ?_ ?_
  rotate_left
  · rintro w' ⟨s0, s1, s2⟩
    go_simp
    with_reducible rfl
  rotate_left
  · simp only [Act.put, List.setIfInBounds_toArray, List.set_cons_zero, List.set_cons_succ, i64_w, i32_w]
    rfl
  refine take_ (i := 5) (N := some 28) (a' := ?_) #[true, true, true, true, true, true, true, false, false] rfl rfl (by kernel_rfl) (fun _ _ _ h => h) (yieldsIf_load_mid (by rfl) 124 _ rfl p 0 (by rfl) (Cells.cs a.x) _ (fun w' h => h.2.1) Try.underlying124 rfl (by kernel_rfl)) hHeld ?_ ?_
  rotate_left
  · simp only [Act.put, List.setIfInBounds_toArray, List.set_cons_zero, List.set_cons_succ, i64_w, i32_w]
    rfl
  refine take_ (i := 7) (N := some 30) (a' := ?_) #[true, true, true, true, true, true, true, true, false] rfl rfl (by kernel_rfl) (fun _ _ _ h => h) (yieldsIf_load_mid (by rfl) 124 _ rfl q 0 (by rfl) (Cells.cs b.x) _ (fun w' h => h.2.2) Try.underlying124 rfl (by kernel_rfl)) hHeld ?_ ?_
  rotate_left
  · simp only [Act.put, List.setIfInBounds_toArray, List.set_cons_zero, List.set_cons_succ, i64_w, i32_w]
    rfl
  refine one_ (i := 8) (N := some 31) #[true, true, true, true, true, true, true, true, true] rfl rfl (by kernel_rfl) (by decide) (fun K hK => ?_)
  refine goesV_ Try.func91 (by kernel_rfl) rfl #[.agg (Cells.cs a.x).toArray, .agg (Cells.cs b.x).toArray] (by rfl) rfl rfl (by rfl) (by simp only [List.map_toArray, List.map_cons, List.map_nil]; rfl) ?_
  with_reducible refine (lessf_O a.x b.x _).mono ?_
  rintro e w3 ⟨rfl, hb3⟩
  refine ⟨_, rfl, ?_⟩
  refine hK.out _ _ ⟨((Eff.of_below hb3 (fun _ => False)).cell hHeld.1 (fun h => h)), (rangeAt_eff hHeld.2.1 (Eff.of_below hb3 (fun _ => False)) (fun h => h)), (rangeAt_eff hHeld.2.2 (Eff.of_below hb3 (fun _ => False)) (fun h => h))⟩ (fun hHeld => ?_)
  clear hK K
  refine norm_ (a' := ?_) ?_ ?_
  rotate_left
  · show Act.put _ (some 31) _ = _
    simp only [Act.put, List.setIfInBounds_toArray, List.set_cons_zero, List.set_cons_succ, i64_w, i32_w]
    rfl
  refine done_ (by kernel_rfl) ?_
  clear hHeld e0 e1 e2
  have E3 := Lib.hid (E2.out.drew.trans (T := fun _ => False) (Eff.of_below hb3 _) (fun _ h => h.elim))
  have BP3 := Lib.hid (below_heap hb3 (show W2.drew.heap[p]? = _ from BP.out))
  have BQ3 := Lib.hid (below_heap hb3 (show W2.drew.heap[q]? = _ from BQ.out))
  clear hb3
  rcases Bool.eq_false_or_eq_true (Lt.lt a.x b.x) with h1 | h1
  · rw [h1]
    have hr : bef a b = true := by unfold bef; rw [h1]; rfl
    have H := Lib.hid hr
    clear hr h1
    go_wp2_with fail
    go_ret
    exact ⟨by rw [H.out]; rfl, E3.out.below (fun _ h => h.elim)⟩
  rw [h1]
  have H1 := Lib.hid h1
  clear h1
  go_wp2_with fail
  have f0 : w3.cell? ⟨g, 0, none⟩ = some lessO := E3.out.cell C0.out (fun h => h)
  have f1 : w3.rangeAt p 0 (Cells.cs a.x) := box_range BP3.out 0 _ (enc_x a)
  have f2 : w3.rangeAt q 0 (Cells.cs b.x) := box_range BQ3.out 0 _ (enc_x b)
  have f3 : w3.cell? ⟨p, 3, none⟩ = some (.int .i64 a.t) := box_cell BP3.out 3 _ rfl
  have f4 : w3.cell? ⟨q, 3, none⟩ = some (.int .i64 b.t) := box_cell BQ3.out 3 _ rfl
  rcases Bool.eq_false_or_eq_true (Lt.lt b.x a.x) with h2' | h2'
  · have h2 := Lib.hid h2'
    clear h2'
    refine start_ (n := 18) (S := fun w' => w'.cell? ⟨g, 0, none⟩ = some lessO ∧ w'.rangeAt p 0 (Cells.cs a.x) ∧ w'.rangeAt q 0 (Cells.cs b.x) ∧ w'.cell? ⟨p, 3, none⟩ = some (.int .i64 a.t) ∧ w'.cell? ⟨q, 3, none⟩ = some (.int .i64 b.t)) (ds := []) #[false, false, false, false, false, false, false, false, false, false, false, false, false, false, false, false, false, false] (by kernel_rfl) rfl rfl ⟨f0, f1, f2, f3, f4⟩ (fun hHeld => ?_)
    refine pure_ (i := 0) (N := some 32) (v := ?_) (a' := ?_) #[true, false, false, false, false, false, false, false, false, false, false, false, false, false, false, false, false, false] rfl rfl (by kernel_rfl) (fun _ _ _ h => h) (Or.inl ⟨by rfl, ?_⟩) ?_ ?_
    rotate_left
    · intro w'
      go_simp
      with_reducible rfl
    rotate_left
    · simp only [Act.put, List.setIfInBounds_toArray, List.set_cons_zero, List.set_cons_succ, i64_w, i32_w]
      rfl
    refine pure_ (i := 1) (N := some 33) (v := ?_) (a' := ?_) #[true, true, false, false, false, false, false, false, false, false, false, false, false, false, false, false, false, false] rfl rfl (by kernel_rfl) (fun _ _ _ h => h) (Or.inl ⟨by rfl, ?_⟩) ?_ ?_
    rotate_left
    · intro w'
      go_simp
      with_reducible rfl
    rotate_left
    · simp only [Act.put, List.setIfInBounds_toArray, List.set_cons_zero, List.set_cons_succ, i64_w, i32_w]
      rfl
    refine pure_ (i := 2) (N := some 34) (v := ?_) (a' := ?_) #[true, true, true, false, false, false, false, false, false, false, false, false, false, false, false, false, false, false] rfl rfl (by kernel_rfl) (fun _ _ _ h => h) (Or.inl ⟨by rfl, ?_⟩) ?_ ?_
    rotate_left
    · intro w'
      go_simp
      with_reducible rfl
    rotate_left
    · simp only [Act.put, List.setIfInBounds_toArray, List.set_cons_zero, List.set_cons_succ, i64_w, i32_w]
      rfl
    refine pure_ (i := 4) (N := some 36) (v := ?_) (a' := ?_) #[true, true, true, false, true, false, false, false, false, false, false, false, false, false, false, false, false, false] rfl rfl (by kernel_rfl) (fun _ _ _ h => h) (Or.inl ⟨by rfl, ?_⟩) ?_ ?_
    rotate_left
    · intro w'
      go_simp
      with_reducible rfl
    rotate_left
    · simp only [Act.put, List.setIfInBounds_toArray, List.set_cons_zero, List.set_cons_succ, i64_w, i32_w]
      rfl
    refine pure_ (i := 6) (N := some 38) (v := ?_) (a' := ?_) #[true, true, true, false, true, false, true, false, false, false, false, false, false, false, false, false, false, false] rfl rfl (by kernel_rfl) (fun _ _ _ h => h) (Or.inl ⟨by rfl, ?_⟩) ?_ ?_
    rotate_left
    · intro w'
      go_simp
      with_reducible rfl
    rotate_left
    · simp only [Act.put, List.setIfInBounds_toArray, List.set_cons_zero, List.set_cons_succ, i64_w, i32_w]
      rfl
    refine take_ (i := 3) (N := some 35) (v := ?_) (a' := ?_) #[true, true, true, true, true, false, true, false, false, false, false, false, false, false, false, false, false, false] rfl rfl (by kernel_rfl) (fun _ _ _ h => h) (Or.inl ⟨by rfl, ?_⟩) hHeld ?_ ?_
    rotate_left
    · rintro w' ⟨s0, s1, s2, s3, s4⟩
      go_simp
      with_reducible rfl
    rotate_left
    · simp only [Act.put, List.setIfInBounds_toArray, List.set_cons_zero, List.set_cons_succ, i64_w, i32_w]
      rfl
    refine take_ (i := 5) (N := some 37) (a' := ?_) #[true, true, true, true, true, true, true, false, false, false, false, false, false, false, false, false, false, false] rfl rfl (by kernel_rfl) (fun _ _ _ h => h) (yieldsIf_load_mid (by rfl) 124 _ rfl q 0 (by rfl) (Cells.cs b.x) _ (fun w' h => h.2.2.1) Try.underlying124 rfl (by kernel_rfl)) hHeld ?_ ?_
    rotate_left
    · simp only [Act.put, List.setIfInBounds_toArray, List.set_cons_zero, List.set_cons_succ, i64_w, i32_w]
      rfl
    refine take_ (i := 7) (N := some 39) (a' := ?_) #[true, true, true, true, true, true, true, true, false, false, false, false, false, false, false, false, false, false] rfl rfl (by kernel_rfl) (fun _ _ _ h => h) (yieldsIf_load_mid (by rfl) 124 _ rfl p 0 (by rfl) (Cells.cs a.x) _ (fun w' h => h.2.1) Try.underlying124 rfl (by kernel_rfl)) hHeld ?_ ?_
    rotate_left
    · simp only [Act.put, List.setIfInBounds_toArray, List.set_cons_zero, List.set_cons_succ, i64_w, i32_w]
      rfl
    refine one_ (i := 8) (N := some 40) #[true, true, true, true, true, true, true, true, true, false, false, false, false, false, false, false, false, false] rfl rfl (by kernel_rfl) (by decide) (fun K hK => ?_)
    refine goesV_ Try.func91 (by kernel_rfl) rfl #[.agg (Cells.cs b.x).toArray, .agg (Cells.cs a.x).toArray] (by rfl) rfl rfl (by rfl) (by simp only [List.map_toArray, List.map_cons, List.map_nil]; rfl) ?_
    with_reducible refine (lessf_O b.x a.x _).mono ?_
    rintro e w4 ⟨he4, hb4⟩
    rw [h2.out] at he4
    subst he4
    have hE4 := Eff.of_below hb4 (fun _ => False)
    refine ⟨_, rfl, ?_⟩
    refine hK.out _ _ ⟨(hE4.cell hHeld.1 (fun h => h)), (rangeAt_eff hHeld.2.1 hE4 (fun h => h)), (rangeAt_eff hHeld.2.2.1 hE4 (fun h => h)), (hE4.cell hHeld.2.2.2.1 (fun h => h)), (hE4.cell hHeld.2.2.2.2 (fun h => h))⟩ (fun hHeld => ?_)
    clear hK K
    refine norm_ (a' := ?_) ?_ ?_
    rotate_left
    · show Act.put _ (some 40) _ = _
      simp only [Act.put, List.setIfInBounds_toArray, List.set_cons_zero, List.set_cons_succ, i64_w, i32_w]
      rfl
    refine pure_ (i := 9) (N := some 41) (v := ?_) (a' := ?_) #[true, true, true, true, true, true, true, true, true, true, false, false, false, false, false, false, false, false] rfl rfl (by kernel_rfl) (fun _ _ _ h => h) (Or.inl ⟨by rfl, ?_⟩) ?_ ?_
    rotate_left
    · intro w'
      go_simp
      with_reducible rfl
    rotate_left
    · simp only [Act.put, List.setIfInBounds_toArray, List.set_cons_zero, List.set_cons_succ, i64_w, i32_w]
      rfl
    refine pure_ (i := 10) (N := some 42) (v := ?_) (a' := ?_) #[true, true, true, true, true, true, true, true, true, true, true, false, false, false, false, false, false, false] rfl rfl (by kernel_rfl) (fun _ _ _ h => h) (Or.inl ⟨by rfl, ?_⟩) ?_ ?_
    rotate_left
    · intro w'
      go_simp
      with_reducible rfl
    rotate_left
    · simp only [Act.put, List.setIfInBounds_toArray, List.set_cons_zero, List.set_cons_succ, i64_w, i32_w]
      rfl
    refine pure_ (i := 11) (N := some 43) (v := undef) (a' := ?_) #[true, true, true, true, true, true, true, true, true, true, true, true, false, false, false, false, false, false] rfl rfl (by kernel_rfl) (fun _ _ _ h => h) (Or.inr ⟨by rfl, rfl⟩) ?_ ?_
    rotate_left
    · simp only [Act.put, List.setIfInBounds_toArray, List.set_cons_zero, List.set_cons_succ, i64_w, i32_w]
      rfl
    refine pure_ (i := 12) (N := some 44) (v := undef) (a' := ?_) #[true, true, true, true, true, true, true, true, true, true, true, true, true, false, false, false, false, false] rfl rfl (by kernel_rfl) (fun _ _ _ h => h) (Or.inr ⟨by rfl, rfl⟩) ?_ ?_
    rotate_left
    · simp only [Act.put, List.setIfInBounds_toArray, List.set_cons_zero, List.set_cons_succ, i64_w, i32_w]
      rfl
    refine pure_ (i := 13) (N := some 45) (v := undef) (a' := ?_) #[true, true, true, true, true, true, true, true, true, true, true, true, true, true, false, false, false, false] rfl rfl (by kernel_rfl) (fun _ _ _ h => h) (Or.inr ⟨by rfl, rfl⟩) ?_ ?_
    rotate_left
    · simp only [Act.put, List.setIfInBounds_toArray, List.set_cons_zero, List.set_cons_succ, i64_w, i32_w]
      rfl
    refine pure_ (i := 14) (N := some 46) (v := undef) (a' := ?_) #[true, true, true, true, true, true, true, true, true, true, true, true, true, true, true, false, false, false] rfl rfl (by kernel_rfl) (fun _ _ _ h => h) (Or.inr ⟨by rfl, rfl⟩) ?_ ?_
    rotate_left
    · simp only [Act.put, List.setIfInBounds_toArray, List.set_cons_zero, List.set_cons_succ, i64_w, i32_w]
      rfl
    refine pure_ (i := 15) (N := some 47) (v := undef) (a' := ?_) #[true, true, true, true, true, true, true, true, true, true, true, true, true, true, true, true, false, false] rfl rfl (by kernel_rfl) (fun _ _ _ h => h) (Or.inr ⟨by rfl, rfl⟩) ?_ ?_
    rotate_left
    · simp only [Act.put, List.setIfInBounds_toArray, List.set_cons_zero, List.set_cons_succ, i64_w, i32_w]
      rfl
    refine pure_ (i := 16) (N := some 48) (v := ?_) (a' := ?_) #[true, true, true, true, true, true, true, true, true, true, true, true, true, true, true, true, true, false] rfl rfl (by kernel_rfl) (fun _ _ _ h => h) (Or.inl ⟨by rfl, ?_⟩) ?_ ?_
    rotate_left
    · intro w'
      go_simp
      with_reducible rfl
    rotate_left
    · simp only [Act.put, List.setIfInBounds_toArray, List.set_cons_zero, List.set_cons_succ, i64_w, i32_w]
      rfl
    refine pure_ (i := 17) (N := some 6) (v := ?_) (a' := ?_) #[true, true, true, true, true, true, true, true, true, true, true, true, true, true, true, true, true, true] rfl rfl (by kernel_rfl) (fun _ _ _ h => h) (Or.inl ⟨by rfl, ?_⟩) ?_ ?_
    rotate_left
    · intro w'
      go_simp
      with_reducible rfl
    rotate_left
    · simp only [Act.put, List.setIfInBounds_toArray, List.set_cons_zero, List.set_cons_succ, i64_w, i32_w]
      rfl
    refine done_ (by kernel_rfl) ?_
    go_wp2_with fail
    go_ret
    exact ⟨by unfold bef; rw [H1.out, h2.out]; rfl, (E3.out.drew.trans (T := fun _ => False) hE4 (fun _ h => h.elim)).below (fun _ h => h.elim)⟩
  · have h2 := Lib.hid h2'
    clear h2'
    refine start_ (n := 18) (S := fun w' => w'.cell? ⟨g, 0, none⟩ = some lessO ∧ w'.rangeAt p 0 (Cells.cs a.x) ∧ w'.rangeAt q 0 (Cells.cs b.x) ∧ w'.cell? ⟨p, 3, none⟩ = some (.int .i64 a.t) ∧ w'.cell? ⟨q, 3, none⟩ = some (.int .i64 b.t)) (ds := []) #[false, false, false, false, false, false, false, false, false, false, false, false, false, false, false, false, false, false] (by kernel_rfl) rfl rfl ⟨f0, f1, f2, f3, f4⟩ (fun hHeld => ?_)
    refine pure_ (i := 0) (N := some 32) (v := ?_) (a' := ?_) #[true, false, false, false, false, false, false, false, false, false, false, false, false, false, false, false, false, false] rfl rfl (by kernel_rfl) (fun _ _ _ h => h) (Or.inl ⟨by rfl, ?_⟩) ?_ ?_
    rotate_left
    · intro w'
      go_simp
      with_reducible rfl
    rotate_left
    · simp only [Act.put, List.setIfInBounds_toArray, List.set_cons_zero, List.set_cons_succ, i64_w, i32_w]
      rfl
    refine pure_ (i := 1) (N := some 33) (v := ?_) (a' := ?_) #[true, true, false, false, false, false, false, false, false, false, false, false, false, false, false, false, false, false] rfl rfl (by kernel_rfl) (fun _ _ _ h => h) (Or.inl ⟨by rfl, ?_⟩) ?_ ?_
    rotate_left
    · intro w'
      go_simp
      with_reducible rfl
    rotate_left
    · simp only [Act.put, List.setIfInBounds_toArray, List.set_cons_zero, List.set_cons_succ, i64_w, i32_w]
      rfl
    refine pure_ (i := 2) (N := some 34) (v := ?_) (a' := ?_) #[true, true, true, false, false, false, false, false, false, false, false, false, false, false, false, false, false, false] rfl rfl (by kernel_rfl) (fun _ _ _ h => h) (Or.inl ⟨by rfl, ?_⟩) ?_ ?_
    rotate_left
    · intro w'
      go_simp
      with_reducible rfl
    rotate_left
    · simp only [Act.put, List.setIfInBounds_toArray, List.set_cons_zero, List.set_cons_succ, i64_w, i32_w]
      rfl
    refine pure_ (i := 4) (N := some 36) (v := ?_) (a' := ?_) #[true, true, true, false, true, false, false, false, false, false, false, false, false, false, false, false, false, false] rfl rfl (by kernel_rfl) (fun _ _ _ h => h) (Or.inl ⟨by rfl, ?_⟩) ?_ ?_
    rotate_left
    · intro w'
      go_simp
      with_reducible rfl
    rotate_left
    · simp only [Act.put, List.setIfInBounds_toArray, List.set_cons_zero, List.set_cons_succ, i64_w, i32_w]
      rfl
    refine pure_ (i := 6) (N := some 38) (v := ?_) (a' := ?_) #[true, true, true, false, true, false, true, false, false, false, false, false, false, false, false, false, false, false] rfl rfl (by kernel_rfl) (fun _ _ _ h => h) (Or.inl ⟨by rfl, ?_⟩) ?_ ?_
    rotate_left
    · intro w'
      go_simp
      with_reducible rfl
    rotate_left
    · simp only [Act.put, List.setIfInBounds_toArray, List.set_cons_zero, List.set_cons_succ, i64_w, i32_w]
      rfl
    refine take_ (i := 3) (N := some 35) (v := ?_) (a' := ?_) #[true, true, true, true, true, false, true, false, false, false, false, false, false, false, false, false, false, false] rfl rfl (by kernel_rfl) (fun _ _ _ h => h) (Or.inl ⟨by rfl, ?_⟩) hHeld ?_ ?_
    rotate_left
    · rintro w' ⟨s0, s1, s2, s3, s4⟩
      go_simp
      with_reducible rfl
    rotate_left
    · simp only [Act.put, List.setIfInBounds_toArray, List.set_cons_zero, List.set_cons_succ, i64_w, i32_w]
      rfl
    refine take_ (i := 5) (N := some 37) (a' := ?_) #[true, true, true, true, true, true, true, false, false, false, false, false, false, false, false, false, false, false] rfl rfl (by kernel_rfl) (fun _ _ _ h => h) (yieldsIf_load_mid (by rfl) 124 _ rfl q 0 (by rfl) (Cells.cs b.x) _ (fun w' h => h.2.2.1) Try.underlying124 rfl (by kernel_rfl)) hHeld ?_ ?_
    rotate_left
    · simp only [Act.put, List.setIfInBounds_toArray, List.set_cons_zero, List.set_cons_succ, i64_w, i32_w]
      rfl
    refine take_ (i := 7) (N := some 39) (a' := ?_) #[true, true, true, true, true, true, true, true, false, false, false, false, false, false, false, false, false, false] rfl rfl (by kernel_rfl) (fun _ _ _ h => h) (yieldsIf_load_mid (by rfl) 124 _ rfl p 0 (by rfl) (Cells.cs a.x) _ (fun w' h => h.2.1) Try.underlying124 rfl (by kernel_rfl)) hHeld ?_ ?_
    rotate_left
    · simp only [Act.put, List.setIfInBounds_toArray, List.set_cons_zero, List.set_cons_succ, i64_w, i32_w]
      rfl
    refine one_ (i := 8) (N := some 40) #[true, true, true, true, true, true, true, true, true, false, false, false, false, false, false, false, false, false] rfl rfl (by kernel_rfl) (by decide) (fun K hK => ?_)
    refine goesV_ Try.func91 (by kernel_rfl) rfl #[.agg (Cells.cs b.x).toArray, .agg (Cells.cs a.x).toArray] (by rfl) rfl rfl (by rfl) (by simp only [List.map_toArray, List.map_cons, List.map_nil]; rfl) ?_
    with_reducible refine (lessf_O b.x a.x _).mono ?_
    rintro e w4 ⟨he4, hb4⟩
    rw [h2.out] at he4
    subst he4
    have hE4 := Eff.of_below hb4 (fun _ => False)
    refine ⟨_, rfl, ?_⟩
    refine hK.out _ _ ⟨(hE4.cell hHeld.1 (fun h => h)), (rangeAt_eff hHeld.2.1 hE4 (fun h => h)), (rangeAt_eff hHeld.2.2.1 hE4 (fun h => h)), (hE4.cell hHeld.2.2.2.1 (fun h => h)), (hE4.cell hHeld.2.2.2.2 (fun h => h))⟩ (fun hHeld => ?_)
    clear hK K
    refine norm_ (a' := ?_) ?_ ?_
    rotate_left
    · show Act.put _ (some 40) _ = _
      simp only [Act.put, List.setIfInBounds_toArray, List.set_cons_zero, List.set_cons_succ, i64_w, i32_w]
      rfl
    refine pure_ (i := 9) (N := some 41) (v := ?_) (a' := ?_) #[true, true, true, true, true, true, true, true, true, true, false, false, false, false, false, false, false, false] rfl rfl (by kernel_rfl) (fun _ _ _ h => h) (Or.inl ⟨by rfl, ?_⟩) ?_ ?_
    rotate_left
    · intro w'
      go_simp
      with_reducible rfl
    rotate_left
    · simp only [Act.put, List.setIfInBounds_toArray, List.set_cons_zero, List.set_cons_succ, i64_w, i32_w]
      rfl
    refine pure_ (i := 10) (N := some 42) (v := ?_) (a' := ?_) #[true, true, true, true, true, true, true, true, true, true, true, false, false, false, false, false, false, false] rfl rfl (by kernel_rfl) (fun _ _ _ h => h) (Or.inl ⟨by rfl, ?_⟩) ?_ ?_
    rotate_left
    · intro w'
      go_simp
      with_reducible rfl
    rotate_left
    · simp only [Act.put, List.setIfInBounds_toArray, List.set_cons_zero, List.set_cons_succ, i64_w, i32_w]
      rfl
    refine pure_ (i := 11) (N := some 43) (v := ?_) (a' := ?_) #[true, true, true, true, true, true, true, true, true, true, true, true, false, false, false, false, false, false] rfl rfl (by kernel_rfl) (fun _ _ _ h => h) (Or.inl ⟨by rfl, ?_⟩) ?_ ?_
    rotate_left
    · intro w'
      go_simp
      with_reducible rfl
    rotate_left
    · simp only [Act.put, List.setIfInBounds_toArray, List.set_cons_zero, List.set_cons_succ, i64_w, i32_w]
      rfl
    refine pure_ (i := 13) (N := some 45) (v := ?_) (a' := ?_) #[true, true, true, true, true, true, true, true, true, true, true, true, false, true, false, false, false, false] rfl rfl (by kernel_rfl) (fun _ _ _ h => h) (Or.inl ⟨by rfl, ?_⟩) ?_ ?_
    rotate_left
    · intro w'
      go_simp
      with_reducible rfl
    rotate_left
    · simp only [Act.put, List.setIfInBounds_toArray, List.set_cons_zero, List.set_cons_succ, i64_w, i32_w]
      rfl
    refine take_ (i := 12) (N := some 44) (v := ?_) (a' := ?_) #[true, true, true, true, true, true, true, true, true, true, true, true, true, true, false, false, false, false] rfl rfl (by kernel_rfl) (fun _ _ _ h => h) (Or.inl ⟨by rfl, ?_⟩) hHeld ?_ ?_
    rotate_left
    · rintro w' ⟨s0, s1, s2, s3, s4⟩
      go_simp
      with_reducible rfl
    rotate_left
    · simp only [Act.put, List.setIfInBounds_toArray, List.set_cons_zero, List.set_cons_succ, i64_w, i32_w]
      rfl
    refine take_ (i := 14) (N := some 46) (v := ?_) (a' := ?_) #[true, true, true, true, true, true, true, true, true, true, true, true, true, true, true, false, false, false] rfl rfl (by kernel_rfl) (fun _ _ _ h => h) (Or.inl ⟨by rfl, ?_⟩) hHeld ?_ ?_
    rotate_left
    · rintro w' ⟨s0, s1, s2, s3, s4⟩
      go_simp
      with_reducible rfl
    rotate_left
    · simp only [Act.put, List.setIfInBounds_toArray, List.set_cons_zero, List.set_cons_succ, i64_w, i32_w]
      rfl
    refine pure_ (i := 15) (N := some 47) (v := ?_) (a' := ?_) #[true, true, true, true, true, true, true, true, true, true, true, true, true, true, true, true, false, false] rfl rfl (by kernel_rfl) (fun _ _ _ h => h) (Or.inl ⟨by rfl, ?_⟩) ?_ ?_
    rotate_left
    · intro w'
      go_simp
      with_reducible rfl
    rotate_left
    · simp only [Act.put, List.setIfInBounds_toArray, List.set_cons_zero, List.set_cons_succ, i64_w, i32_w]
      rfl
    refine pure_ (i := 16) (N := some 48) (v := ?_) (a' := ?_) #[true, true, true, true, true, true, true, true, true, true, true, true, true, true, true, true, true, false] rfl rfl (by kernel_rfl) (fun _ _ _ h => h) (Or.inl ⟨by rfl, ?_⟩) ?_ ?_
    rotate_left
    · intro w'
      go_simp
      with_reducible rfl
    rotate_left
    · simp only [Act.put, List.setIfInBounds_toArray, List.set_cons_zero, List.set_cons_succ, i64_w, i32_w]
      rfl
    refine pure_ (i := 17) (N := some 6) (v := ?_) (a' := ?_) #[true, true, true, true, true, true, true, true, true, true, true, true, true, true, true, true, true, true] rfl rfl (by kernel_rfl) (fun _ _ _ h => h) (Or.inl ⟨by rfl, ?_⟩) ?_ ?_
    rotate_left
    · intro w'
      go_simp
      with_reducible rfl
    rotate_left
    · simp only [Act.put, List.setIfInBounds_toArray, List.set_cons_zero, List.set_cons_succ, i64_w, i32_w]
      rfl
    refine done_ (by kernel_rfl) ?_
    go_wp2_with fail
    go_ret
    exact ⟨by unfold bef; rw [H1.out, h2.out]; simp, (E3.out.drew.trans (T := fun _ => False) hE4 (fun _ h => h.elim)).below (fun _ h => h.elim)⟩
end Go.Proofs.Ytepfbhigeghjjaa.Q
namespace Go.Proofs.Ytepfbhigeghjjaa.Q
open Go.RowKit Go.Proofs.YtepfbhigeghjjaaW.PrintLast
set_option linter.unusedVariables false
set_option linter.unusedSimpArgs false

/-! ### up -/
set_option maxHeartbeats 2000000 in
set_option maxRecDepth 100000 in
theorem up_O {B : Nat} {w : World} {g mb : Nat} {hv : Value} {es : List (En K.O2)} {nx ck : Int} (hq : IsQ 138 140 lessO B w g hv mb es nx ck) (i : Nat) (e : En K.O2) (hi : es[i]? = some e) (hx : HeapX es i) (hlen : es.length ≤ 1000000000) :
    Calls Try.prog 97 #[.pointer (some ⟨g, 0, none⟩), .int .i64 i] w (UpPost 138 140 lessO B w g hv mb es nx ck i e) := by
  have H0 : Hid (IsQ 138 140 lessO B w g hv mb es nx ck ∧ es.Perm es ∧ HeapX es i ∧ es[i]? = some e ∧ (Kids es i → Kids es i) ∧ Eff (fun k => some k = hv.ownBlock ∨ k = mb) w w) := ⟨hq, List.Perm.refl _, hx, hi, fun h => h, Eff.refl _ _⟩
  clear hq hx hi
  go_enter Try.func97, Try.ntmps97
  go_wp2_with fail
  go_loopg [1] i (fun m si wr => ∃ (i' : Nat) (es' : List (En K.O2)), si = .int .i64 i' ∧ i' ≤ m ∧ Hid (IsQ 138 140 lessO B wr g hv mb es' nx ck ∧ es'.Perm es ∧ HeapX es' i' ∧ es'[i']? = some e ∧ (Kids es i → Kids es' i') ∧ Eff (fun k => some k = hv.ownBlock ∨ k = mb) w wr))
  case atStart => exact ⟨i, es, rfl, Nat.le_refl _, H0⟩
  case round =>
    clear H0
    obtain ⟨i', es', rfl, hm, HR⟩ := hrel
    obtain ⟨hq, hpm, hx, hi, hk, he⟩ := HR.out
    have hil : i' < es'.length := (List.getElem?_eq_some_iff.1 hi).1
    have hle : es'.length ≤ 1000000000 := by rw [hpm.length_eq]; exact hlen
    by_cases h0 : 0 < i'
    · obtain ⟨b, hj⟩ : ∃ b, es'[(i' - 1) / 2]? = some b := ⟨_, List.getElem?_eq_getElem (by omega)⟩
      have CB := Lib.hid (fun W (hW : IsQ 138 140 lessO B W g hv mb es' nx ck) => before_O hW i' ((i' - 1) / 2) e b hi hj hle)
      have CS := Lib.hid (fun W (hW : IsQ 138 140 lessO B W g hv mb es' nx ck) => swap_O hW i' ((i' - 1) / 2) e b hi hj hle)
      have hc : ((i' : Int) - 1) / 2 = (((i' - 1) / 2 : Nat) : Int) := by omega
      have HC := Lib.hid hc
      have hz : (0 : Int) < (i' : Int) := by omega
      have hl2 : (i' : Int) ≤ 1000000000 := by omega
      have HJ := Lib.hid hj
      clear hq hpm hx hi hk he hj hc
      go_wp2_with fail
      rw [HC.out]
      refine (CB.out _ HR.out.1).mono ?_
      rintro r w1 ⟨rfl, hb1⟩
      have HQ1 : Hid (IsQ 138 140 lessO B w1 g hv mb es' nx ck) := HR.out.1.eff (Eff.of_below hb1 (fun _ => False)) (fun _ _ h => h)
      have HB1 := Lib.hid hb1
      clear hb1
      rcases Bool.eq_false_or_eq_true (bef e b) with h1 | h1
      · rw [h1]
        have H1 := Lib.hid h1
        clear h1
        go_wp2_with fail
        rw [HC.out]
        refine (CS.out _ HQ1.out).mono ?_
        rintro r w2 ⟨rfl, hq2, he2⟩
        have HQ2 := Lib.hid hq2
        have HE2 := Lib.hid he2
        clear hq2 he2
        go_wp2_with fail
        go_roundg ((i' - 1) / 2)
        case measure => omega
        case rel =>
          obtain ⟨hq, hpm, hx, hi, hk, he⟩ := HR.out
          refine ⟨(i' - 1) / 2, swp es' i' ((i' - 1) / 2), by rw [HC.out], Nat.le_refl _, HQ2.out, swp_perm.trans hpm, up_round hx h0 hi HJ.out H1.out, by rw [swp_get hi HJ.out, if_pos rfl], fun h => up_kids hx (hk h) h0 hi HJ.out H1.out, ?_⟩
          exact (he.trans (T := fun _ => False) (Eff.of_below HB1.out _) (fun _ h => h.elim)).trans HE2.out (fun _ h => .inl h)
      · rw [h1]
        have H1 := Lib.hid h1
        clear h1
        go_wp2_with fail
        go_end0
        obtain ⟨hq, hpm, hx, hi, hk, he⟩ := HR.out
        refine ⟨rfl, es', i', HQ1.out, hpm, up_stop hx (fun _ => ?_), hi, hk, he.trans (T := fun _ => False) (Eff.of_below HB1.out _) (fun _ h => h.elim)⟩
        intro x y hx' hy'
        rw [HJ.out] at hx'
        rw [hi] at hy'
        cases hx'
        cases hy'
        exact H1.out
    · have hz : ¬ (0 : Int) < (i' : Int) := by omega
      clear hq hpm hx hi hk he
      go_wp2_with fail
      go_end0
      obtain ⟨hq, hpm, hx, hi, hk, he⟩ := HR.out
      exact ⟨rfl, es', i', hq, hpm, up_stop hx (fun h => absurd h h0), hi, hk, he⟩
end Go.Proofs.Ytepfbhigeghjjaa.Q
namespace Go.Proofs.Ytepfbhigeghjjaa.Q
open Go.RowKit Go.Proofs.YtepfbhigeghjjaaW.PrintLast
set_option linter.unusedVariables false
set_option linter.unusedSimpArgs false

/-! ### down -/
set_option maxHeartbeats 2000000 in
set_option maxRecDepth 100000 in
theorem down_O {B : Nat} {w : World} {g mb : Nat} {hv : Value} {es : List (En K.O2)} {nx ck : Int} (hq : IsQ 138 140 lessO B w g hv mb es nx ck) (i : Nat) (hx : HeapD es i) (hi : i ≤ 1000000000) (hlen : es.length ≤ 1000000000) :
    Calls Try.prog 99 #[.pointer (some ⟨g, 0, none⟩), .int .i64 i] w (DownPost 138 140 lessO B w g hv mb es nx ck) := by
  have H0 : Hid (IsQ 138 140 lessO B w g hv mb es nx ck ∧ es.Perm es ∧ HeapD es i ∧ Eff (fun k => some k = hv.ownBlock ∨ k = mb) w w) := ⟨hq, List.Perm.refl _, hx, Eff.refl _ _⟩
  obtain ⟨A, cap, hvA⟩ : ∃ A cap, hv = .slice A es.length cap := Row.slice hq.row
  have HV := Lib.hid hvA
  clear hq hx hvA
  go_enter Try.func99, Try.ntmps99
  go_wp2_with fail
  go_loopg [1] es.length (fun m si wr => ∃ (i' : Nat) (es' : List (En K.O2)), si = .int .i64 i' ∧ i' ≤ 1000000000 ∧ es.length - i' ≤ m ∧ Hid (IsQ 138 140 lessO B wr g hv mb es' nx ck ∧ es'.Perm es ∧ HeapD es' i' ∧ Eff (fun k => some k = hv.ownBlock ∨ k = mb) w wr))
  case atStart => exact ⟨i, es, rfl, hi, by omega, H0⟩
  case round =>
    clear H0
    obtain ⟨i', es', rfl, hib, hm, HR⟩ := hrel
    have hle : es'.length = es.length := HR.out.2.1.length_eq
    have HLE := Lib.hid hle
    clear hle
    obtain ⟨wo, hwo⟩ : ∃ wo : World, wo = wr := ⟨_, rfl⟩
    have E0 : Hid (Eff (fun _ => False) wr wr) := Eff.refl _ _
    go_wp2_with fail
    go_loopg [5, 4] 3 (fun m2 sk sl wi => ∃ (c l : Nat), sk = .int .i64 c ∧ sl = .int .i64 l ∧ 2 * i' + 1 ≤ c ∧ c ≤ 2 * i' + 3 ∧ 2 * i' + 3 - c ≤ m2 ∧ l ≤ 2 * i' + 2 ∧ Hid (Least es' i' c l ∧ Eff (fun _ => False) wr wi))
    case atStart => exact ⟨2 * i' + 1, i', by go_num, rfl, Nat.le_refl _, by omega, by omega, by omega, ⟨least_start es' i', E0.out⟩⟩
    case round =>
      obtain ⟨c, l, rfl, rfl, hc1, hc2, hm2, hl2, HL⟩ := hrel
      have HQ : Hid (IsQ 138 140 lessO B wr g hv mb es' nx ck) := HR.out.1.eff HL.out.2 (fun _ _ h => h)
      have d1 : wr.cell? ⟨g, 1, none⟩ = some (.slice A es.length cap) := by rw [← HV.out]; exact blk_cell1 HQ.out.blk
      by_cases hk : c ≤ 2 * i' + 2 ∧ c < es.length
      · obtain ⟨hk1, hk2⟩ := hk
        obtain ⟨a, ha⟩ : ∃ a, es'[c]? = some a := ⟨_, List.getElem?_eq_getElem (by rw [HLE.out]; exact hk2)⟩
        obtain ⟨b, hb⟩ : ∃ b, es'[l]? = some b := ⟨_, List.getElem?_eq_getElem (by rw [HLE.out]; have := HL.out.1.lt; omega)⟩
        have CB := Lib.hid (before_O HQ.out c l a b ha hb (by rw [HLE.out]; exact hlen))
        have HA := Lib.hid ha
        have HBb := Lib.hid hb
        have g1 : (c : Int) ≤ 2 * (i' : Int) + 2 := by omega
        have g2 : (c : Int) < (es.length : Int) := by omega
        clear ha hb
        go_wp2_with fail
        refine CB.out.mono ?_
        rintro r w1 ⟨rfl, hb1⟩
        have HB1 := Lib.hid hb1
        clear hb1
        rcases Bool.eq_false_or_eq_true (bef a b) with h1 | h1
        · rw [h1]
          have H1 := Lib.hid h1
          clear h1
          go_wp2_with fail
          go_roundg (2 * i' + 3 - (c + 1))
          case measure => omega
          case rel => exact ⟨c + 1, c, by go_num, rfl, by omega, by omega, by omega, by omega, ⟨HL.out.1.yes (by omega) HA.out HBb.out H1.out, HL.out.2.trans (T := fun _ => False) (Eff.of_below HB1.out _) (fun _ h => h.elim)⟩⟩
        · rw [h1]
          have H1 := Lib.hid h1
          clear h1
          go_wp2_with fail
          go_roundg (2 * i' + 3 - (c + 1))
          case measure => omega
          case rel => exact ⟨c + 1, l, by go_num, rfl, by omega, by omega, by omega, by omega, ⟨HL.out.1.no HA.out HBb.out H1.out, HL.out.2.trans (T := fun _ => False) (Eff.of_below HB1.out _) (fun _ h => h.elim)⟩⟩
      · have HK : Hid (∀ x, 0 < x → x < es'.length → (x - 1) / 2 = i' → x < c) := fun x h0 hx hp => by rw [HLE.out] at hx; omega
        have HK2 : Hid (c ≤ 2 * i' + 2 → ¬ c < es.length) := fun h h2 => hk ⟨h, h2⟩
        clear hk
        have hfin : ∀ W : World, True := fun _ => trivial
        clear hfin
        by_cases hk1 : c ≤ 2 * i' + 2
        · have g1 : (c : Int) ≤ 2 * (i' : Int) + 2 := by omega
          have g2 : ¬ (c : Int) < (es.length : Int) := by have := HK2.out hk1; omega
          by_cases hli : l = i'
          · have g3 : (l : Int) = (i' : Int) := by omega
            have G3 := Lib.hid g3
            have g4 : ((l : Int) == (i' : Int)) = true := by simpa using g3
            have HLI := Lib.hid hli
            clear g3 hli
            go_wp2_with fail
            go_end0
            refine ⟨rfl, es', HQ.out, HR.out.2.1, heap_of HR.out.2.2.1 ?_, HR.out.2.2.2.trans (T := fun _ => False) HL.out.2 (fun _ h => h.elim)⟩
            intro x h0 hx hp
            have := HL.out.1.min x (.inr ⟨h0, HK.out x h0 hx hp, hx, hp⟩)
            rwa [HLI.out] at this
          · have g4 : ((l : Int) == (i' : Int)) = false := by simp; omega
            obtain ⟨hch, hl0, hll⟩ := HL.out.1.child hli
            obtain ⟨a, ha⟩ : ∃ a, es'[i']? = some a := ⟨_, List.getElem?_eq_getElem (by omega)⟩
            obtain ⟨b, hb⟩ : ∃ b, es'[l]? = some b := ⟨_, List.getElem?_eq_getElem hll⟩
            have HA := Lib.hid ha
            have HBb := Lib.hid hb
            have CS := Lib.hid (swap_O HQ.out i' l a b ha hb (by rw [HLE.out]; exact hlen))
            have HC := Lib.hid (And.intro hch (And.intro hl0 hll))
            clear ha hb hch hl0 hll hli
            go_wp2_with fail
            refine CS.out.mono ?_
            rintro r w2 ⟨rfl, hq2, he2⟩
            have HQ2 := Lib.hid hq2
            have HE2 := Lib.hid he2
            clear hq2 he2
            go_wp2_with fail
            go_roundg (es.length - l)
            case measure =>
              obtain ⟨h1, h2, h3⟩ := HC.out
              rw [HLE.out] at h3
              omega
            case rel =>
              obtain ⟨h1, h2, h3⟩ := HC.out
              refine ⟨l, swp es' i' l, rfl, by rw [HLE.out] at h3; omega, Nat.le_refl _, HQ2.out, swp_perm.trans HR.out.2.1, ?_, ?_⟩
              · exact down_round HR.out.2.2.1 HA.out HBb.out h1 h2 (HL.out.1.less (by omega) _ _ HBb.out HA.out) (fun x h0 hx hp => HL.out.1.min x (.inr ⟨h0, HK.out x h0 hx hp, hx, hp⟩))
              · exact (HR.out.2.2.2.trans (T := fun _ => False) HL.out.2 (fun _ h => h.elim)).trans HE2.out (fun _ h => .inl h)
        · have g1 : ¬ (c : Int) ≤ 2 * (i' : Int) + 2 := by omega
          by_cases hli : l = i'
          · have g3 : (l : Int) = (i' : Int) := by omega
            have G3 := Lib.hid g3
            have g4 : ((l : Int) == (i' : Int)) = true := by simpa using g3
            have HLI := Lib.hid hli
            clear g3 hli
            go_wp2_with fail
            go_end0
            refine ⟨rfl, es', HQ.out, HR.out.2.1, heap_of HR.out.2.2.1 ?_, HR.out.2.2.2.trans (T := fun _ => False) HL.out.2 (fun _ h => h.elim)⟩
            intro x h0 hx hp
            have := HL.out.1.min x (.inr ⟨h0, HK.out x h0 hx hp, hx, hp⟩)
            rwa [HLI.out] at this
          · have g4 : ((l : Int) == (i' : Int)) = false := by simp; omega
            obtain ⟨hch, hl0, hll⟩ := HL.out.1.child hli
            obtain ⟨a, ha⟩ : ∃ a, es'[i']? = some a := ⟨_, List.getElem?_eq_getElem (by omega)⟩
            obtain ⟨b, hb⟩ : ∃ b, es'[l]? = some b := ⟨_, List.getElem?_eq_getElem hll⟩
            have HA := Lib.hid ha
            have HBb := Lib.hid hb
            have CS := Lib.hid (swap_O HQ.out i' l a b ha hb (by rw [HLE.out]; exact hlen))
            have HC := Lib.hid (And.intro hch (And.intro hl0 hll))
            clear ha hb hch hl0 hll hli
            go_wp2_with fail
            refine CS.out.mono ?_
            rintro r w2 ⟨rfl, hq2, he2⟩
            have HQ2 := Lib.hid hq2
            have HE2 := Lib.hid he2
            clear hq2 he2
            go_wp2_with fail
            go_roundg (es.length - l)
            case measure =>
              obtain ⟨h1, h2, h3⟩ := HC.out
              rw [HLE.out] at h3
              omega
            case rel =>
              obtain ⟨h1, h2, h3⟩ := HC.out
              refine ⟨l, swp es' i' l, rfl, by rw [HLE.out] at h3; omega, Nat.le_refl _, HQ2.out, swp_perm.trans HR.out.2.1, ?_, ?_⟩
              · exact down_round HR.out.2.2.1 HA.out HBb.out h1 h2 (HL.out.1.less (by omega) _ _ HBb.out HA.out) (fun x h0 hx hp => HL.out.1.min x (.inr ⟨h0, HK.out x h0 hx hp, hx, hp⟩))
              · exact (HR.out.2.2.2.trans (T := fun _ => False) HL.out.2 (fun _ h => h.elim)).trans HE2.out (fun _ h => .inl h)
end Go.Proofs.Ytepfbhigeghjjaa.Q
namespace Go.Proofs.Ytepfbhigeghjjaa.Q
open Go.RowKit Go.Proofs.YtepfbhigeghjjaaW.PrintLast
set_option linter.unusedVariables false
set_option linter.unusedSimpArgs false

/-! ### Push */ -/
set_option maxHeartbeats 2000000 in
set_option maxRecDepth 100000 in
theorem push_O {B : Nat} {w : World} {g mb : Nat} {hv : Value} {es : List (En K.O2)} {nx ck : Int} (hq : IsQ 138 140 lessO B w g hv mb es nx ck) (hh : Heap es) (hnx : ∀ e ∈ es, e.h ≠ nx) (hn0 : 0 ≤ nx) (hn1 : nx ≤ 1000000000) (hc0 : 0 ≤ ck) (hc1 : ck ≤ 1000000000) (hlen : es.length < 1000000000) (x : K.O2) :
    Calls Try.prog 92 #[.pointer (some ⟨g, 0, none⟩), .agg #[.int .i64 x.cost, .int .i64 x.node]] w (PushPost 138 140 lessO B w g hv mb es nx ck x) := by
  have hgl := (Array.getElem?_eq_some_iff.1 hq.blk).1
  have hlt : ∀ k, hv.ownBlock = some k → k < w.heap.size := fun k h => (Row.lt hq.row k h).2
  have hgne : hv.ownBlock ≠ some g := Row.ne hq.row hq.blk (by decide)
  obtain ⟨A, cap, hvA⟩ := hq.lens
  have HV := Lib.hid hvA
  obtain ⟨bx, hbx⟩ : ∃ b, b = w.heap.size := ⟨_, rfl⟩
  obtain ⟨W1, hW1⟩ : ∃ W, W = w.alloc (.cells #[.int .i64 x.cost, .int .i64 x.node] 124) := ⟨_, rfl⟩
  have E1 : Hid (Eff (fun _ => False) w W1) := by rw [hW1]; exact eff_alloc w _
  have Z1 : Hid (W1.heap.size = w.heap.size + 1) := by show _ = _; rw [hW1]; simp
  have GB : Hid (W1.heap[g]? = some (.cells #[lessO, hv, .map (some mb), .int .i64 nx, .int .i64 ck] 138 (0, 0))) := E1.out.heap hq.blk (fun h => h)
  have X0 : W1.heap[bx]? = some (.cells #[.int .i64 x.cost, .int .i64 x.node] 124 (0, 0)) := by rw [hbx, hW1]; exact heap_alloc_new w _
  have X1 : W1.rangeAt bx 0 [.int .i64 x.cost, .int .i64 x.node] := box_range (L := [.int .i64 x.cost, .int .i64 x.node]) X0 0 _ (fun j v h => by rw [Nat.zero_add]; exact h)
  have c1 : W1.cell? ⟨g, 1, none⟩ = some (.slice A es.length cap) := by rw [← hvA]; exact blk_cell1 GB.out
  have c2 : W1.cell? ⟨g, 3, none⟩ = some (.int .i64 nx) := by simp [World.cell?, GB.out]
  have c3 : W1.cell? ⟨g, 4, none⟩ = some (.int .i64 ck) := by simp [World.cell?, GB.out]
  have gne : Hid (¬ some g = (Value.slice A es.length cap).ownBlock) := fun e => hgne (by rw [hvA]; exact e.symm)
  have bne : Hid (¬ some bx = (Value.slice A es.length cap).ownBlock) := fun e => by
    have := hlt bx (by rw [hvA]; exact e.symm)
    omega
  have hBl : B ≤ w.heap.size := Nat.le_trans hq.gB (Nat.le_of_lt hgl)
  have AP : Hid (∀ W : World, Eff (fun _ => False) w W → ∃ v1 w3, (Builtin.append_ #[136, 136] 136 #[.slice A es.length cap, .slice (some ⟨W.heap.size, 0, none⟩) 1 1]).run Try.prog (W.alloc (.cells (enc (⟨x, nx, ck⟩ : En K.O2)).toArray 140)) = .ok v1 w3 ∧ w3.ownsRow B 140 4 v1 (es.length + 1) (flat es ++ enc ⟨x, nx, ck⟩) ∧
      (W.alloc (.cells (enc (⟨x, nx, ck⟩ : En K.O2)).toArray 140)).grownBy w3 (Value.slice A es.length cap).ownBlock ∧ (v1 = .slice none 0 0 ↔ Value.slice A es.length cap = .slice none 0 0 ∧ 1 = 0) ∧ (v1.ownBlock = (Value.slice A es.length cap).ownBlock ∨ v1.ownBlock = some (W.alloc (.cells (enc (⟨x, nx, ck⟩ : En K.O2)).toArray 140)).heap.size)) := by
    intro W hW
    obtain ⟨i0, hi0, hz0, hz1, hz2⟩ := info_parts (show (Try.prog.info? 140).map (fun i => (i.zero, i.size, i.bytes)) = some (some (.agg #[.int .i64 0, .int .i64 0, .int .i64 0, .int .i64 0]), 4, 32) from by kernel_rfl)
    have hrow := (Row.eff hq.row hW (fun _ _ h => h)).eff (eff_alloc W (.cells (enc (⟨x, nx, ck⟩ : En K.O2)).toArray 140)) (fun _ _ h => h)
    rw [hvA] at hrow
    exact run_append_own_at (P := Try.prog) (W.alloc (.cells (enc (⟨x, nx, ck⟩ : En K.O2)).toArray 140)) B 136 136 140 i0 (.agg #[.int .i64 0, .int .i64 0, .int .i64 0, .int .i64 0]) 4 32 Try.underlying136 hi0 hz0 hz1 hz2 rfl (by decide) _ es.length (flat es) hrow
      ⟨W.heap.size, 0, none⟩ 1 1 (enc ⟨x, nx, ck⟩) rfl (fun j u hu => by rw [Addr.add_mid]; exact box_range (heap_alloc_new W _) 0 _ (fun j v h => by rw [Nat.zero_add]; exact h) j u hu) (fun u hu => Array.all_eq_true_iff_forall_mem.1 (enc_all (⟨x, nx, ck⟩ : En K.O2)) u (by simpa using hu)) (by simp only [maxLen]; omega) (by omega) (by have := hW.size; simp; omega)
  have HQ := Lib.hid hq
  have HH := Lib.hid hh
  have HNX := Lib.hid hnx
  have HBL := Lib.hid hBl
  have HLT := Lib.hid hlt
  have HGN := Lib.hid hgne
  have HX := Lib.hid hbx
  have CC := Lib.hid (And.intro c1 (And.intro c2 c3))
  have hn2 : (es.length : Int) < 1000000000 := by omega
  clear hq hh hnx hvA hBl hlt hgne c1 c2 c3 X0 hbx
  go_enter Try.func92, Try.ntmps92
  go_wp2_with fail
  rw [← hW1, ← HX.out]
  clear hW1
  obtain ⟨c1, c2, c3⟩ := CC.out
  refine start_ (n := 11) (S := fun w' => w'.cell? ⟨g, 1, none⟩ = some (.slice A es.length cap) ∧ w'.cell? ⟨g, 3, none⟩ = some (.int .i64 nx)) (ds := []) #[false, false, false, false, false, false, false, false, false, false, false] (by kernel_rfl) rfl rfl ⟨c1, c2⟩ (fun hHeld => ?_)
  refine pure_ (i := 0) (N := some 7) (v := ?_) (a' := ?_) #[true, false, false, false, false, false, false, false, false, false, false] rfl rfl (by kernel_rfl) (fun _ _ _ h => h) (Or.inl ⟨by rfl, ?_⟩) ?_ ?_
  rotate_left
  · intro w'
    go_simp
    with_reducible rfl
  rotate_left
  · simp only [Act.put, List.setIfInBounds_toArray, List.set_cons_zero, List.set_cons_succ, i64_w, i32_w]
    rfl
  refine pure_ (i := 1) (N := some 8) (v := ?_) (a' := ?_) #[true, true, false, false, false, false, false, false, false, false, false] rfl rfl (by kernel_rfl) (fun _ _ _ h => h) (Or.inl ⟨by rfl, ?_⟩) ?_ ?_
  rotate_left
  · intro w'
    go_simp
    with_reducible rfl
  rotate_left
  · simp only [Act.put, List.setIfInBounds_toArray, List.set_cons_zero, List.set_cons_succ, i64_w, i32_w]
    rfl
  refine pure_ (i := 2) (N := some 9) (v := ?_) (a' := ?_) #[true, true, true, false, false, false, false, false, false, false, false] rfl rfl (by kernel_rfl) (fun _ _ _ h => h) (Or.inl ⟨by rfl, ?_⟩) ?_ ?_
  rotate_left
  · intro w'
    go_simp
    with_reducible rfl
  rotate_left
  · simp only [Act.put, List.setIfInBounds_toArray, List.set_cons_zero, List.set_cons_succ, i64_w, i32_w]
    rfl
  refine pure_ (i := 4) (N := some 11) (v := ?_) (a' := ?_) #[true, true, true, false, true, false, false, false, false, false, false] rfl rfl (by kernel_rfl) (fun _ _ _ h => h) (Or.inl ⟨by rfl, ?_⟩) ?_ ?_
  rotate_left
  · intro w'
    go_simp
    with_reducible rfl
  rotate_left
  · simp only [Act.put, List.setIfInBounds_toArray, List.set_cons_zero, List.set_cons_succ, i64_w, i32_w]
    rfl
  refine pure_ (i := 5) (N := some 12) (v := ?_) (a' := ?_) #[true, true, true, false, true, true, false, false, false, false, false] rfl rfl (by kernel_rfl) (fun _ _ _ h => h) (Or.inl ⟨by rfl, ?_⟩) ?_ ?_
  rotate_left
  · intro w'
    go_simp
    with_reducible rfl
  rotate_left
  · simp only [Act.put, List.setIfInBounds_toArray, List.set_cons_zero, List.set_cons_succ, i64_w, i32_w]
    rfl
  refine pure_ (i := 6) (N := some 13) (v := ?_) (a' := ?_) #[true, true, true, false, true, true, true, false, false, false, false] rfl rfl (by kernel_rfl) (fun _ _ _ h => h) (Or.inl ⟨by rfl, ?_⟩) ?_ ?_
  rotate_left
  · intro w'
    go_simp
    with_reducible rfl
  rotate_left
  · simp only [Act.put, List.setIfInBounds_toArray, List.set_cons_zero, List.set_cons_succ, i64_w, i32_w]
    rfl
  refine take_ (i := 3) (N := some 10) (v := ?_) (a' := ?_) #[true, true, true, true, true, true, true, false, false, false, false] rfl rfl (by kernel_rfl) (fun _ _ _ h => h) (Or.inl ⟨by rfl, ?_⟩) hHeld ?_ ?_
  rotate_left
  · rintro w' ⟨s0, s1⟩
    go_simp
    with_reducible rfl
  rotate_left
  · simp only [Act.put, List.setIfInBounds_toArray, List.set_cons_zero, List.set_cons_succ, i64_w, i32_w]
    rfl
  refine pure_ (i := 9) (N := some 5) (v := ?_) (a' := ?_) #[true, true, true, true, true, true, true, false, false, true, false] rfl rfl (by kernel_rfl) (fun _ _ _ h => h) (Or.inl ⟨by rfl, ?_⟩) ?_ ?_
  rotate_left
  · intro w'
    go_simp
    with_reducible rfl
  rotate_left
  · simp only [Act.put, List.setIfInBounds_toArray, List.set_cons_zero, List.set_cons_succ, i64_w, i32_w]
    rfl
  refine take_ (i := 7) (N := some 14) (v := ?_) (a' := ?_) #[true, true, true, true, true, true, true, true, false, true, false] rfl rfl (by kernel_rfl) (fun _ _ _ h => h) (Or.inl ⟨by rfl, ?_⟩) hHeld ?_ ?_
  rotate_left
  · rintro w' ⟨s0, s1⟩
    go_simp
    with_reducible rfl
  rotate_left
  · simp only [Act.put, List.setIfInBounds_toArray, List.set_cons_zero, List.set_cons_succ, i64_w, i32_w]
    rfl
  refine pure_ (i := 8) (N := some 15) (v := ?_) (a' := ?_) #[true, true, true, true, true, true, true, true, true, true, false] rfl rfl (by kernel_rfl) (fun _ _ _ h => h) (Or.inl ⟨by rfl, ?_⟩) ?_ ?_
  rotate_left
  · intro w'
    go_simp
    with_reducible rfl
  rotate_left
  · simp only [Act.put, List.setIfInBounds_toArray, List.set_cons_zero, List.set_cons_succ, i64_w, i32_w]
    rfl
  refine pure_ (i := 10) (N := some 6) (v := ?_) (a' := ?_) #[true, true, true, true, true, true, true, true, true, true, true] rfl rfl (by kernel_rfl) (fun _ _ _ h => h) (Or.inl ⟨by rfl, ?_⟩) ?_ ?_
  rotate_left
  · intro w'
    go_simp
    with_reducible rfl
  rotate_left
  · simp only [Act.put, List.setIfInBounds_toArray, List.set_cons_zero, List.set_cons_succ, i64_w, i32_w]
    rfl
  refine done_ (by kernel_rfl) ?_
  go_wp2_with fail
  obtain ⟨W1', hW1'⟩ : ∃ W, W = W1.drew := ⟨_, rfl⟩
  rw [← hW1']
  have E1 : Hid (Eff (fun _ => False) w W1') := by rw [hW1']; exact E1.out.drew
  have GB : Hid (W1'.heap[g]? = some (.cells #[lessO, hv, .map (some mb), .int .i64 nx, .int .i64 ck] 138 (0, 0))) := by rw [hW1']; exact GB.out
  have X1 : W1'.rangeAt bx 0 [.int .i64 x.cost, .int .i64 x.node] := by rw [hW1']; exact X1
  have c1 : W1'.cell? ⟨g, 1, none⟩ = some (.slice A es.length cap) := by rw [hW1']; exact c1
  have c2 : W1'.cell? ⟨g, 3, none⟩ = some (.int .i64 nx) := by rw [hW1']; exact c2
  have c3 : W1'.cell? ⟨g, 4, none⟩ = some (.int .i64 ck) := by rw [hW1']; exact c3
  have Z1 : Hid (W1'.heap.size = w.heap.size + 1) := by show _ = _; rw [hW1']; exact Z1.out
  clear hW1' hHeld
  refine start_ (n := 17) (S := fun w' => w'.cell? ⟨g, 1, none⟩ = some (.slice A es.length cap) ∧ w'.rangeAt bx 0 [.int .i64 x.cost, .int .i64 x.node] ∧ w'.cell? ⟨g, 4, none⟩ = some (.int .i64 ck)) (ds := [16]) #[false, false, false, false, false, false, false, false, false, false, false, false, false, false, false, false, false] (by kernel_rfl) rfl rfl ⟨c1, X1, c3⟩ (fun hHeld => ?_)
  refine pure_ (i := 0) (N := some 16) (v := ?_) (a' := ?_) #[true, false, false, false, false, false, false, false, false, false, false, false, false, false, false, false, false] rfl rfl (by kernel_rfl) (fun _ _ _ h => h) (Or.inl ⟨by rfl, ?_⟩) ?_ ?_
  rotate_left
  · intro w'
    go_simp
    with_reducible rfl
  rotate_left
  · simp only [Act.put, List.setIfInBounds_toArray, List.set_cons_zero, List.set_cons_succ, i64_w, i32_w]
    rfl
  refine pure_ (i := 1) (N := some 17) (v := ?_) (a' := ?_) #[true, true, false, false, false, false, false, false, false, false, false, false, false, false, false, false, false] rfl rfl (by kernel_rfl) (fun _ _ _ h => h) (Or.inl ⟨by rfl, ?_⟩) ?_ ?_
  rotate_left
  · intro w'
    go_simp
    with_reducible rfl
  rotate_left
  · simp only [Act.put, List.setIfInBounds_toArray, List.set_cons_zero, List.set_cons_succ, i64_w, i32_w]
    rfl
  refine pure_ (i := 2) (N := some 18) (v := ?_) (a' := ?_) #[true, true, true, false, false, false, false, false, false, false, false, false, false, false, false, false, false] rfl rfl (by kernel_rfl) (fun _ _ _ h => h) (Or.inl ⟨by rfl, ?_⟩) ?_ ?_
  rotate_left
  · intro w'
    go_simp
    with_reducible rfl
  rotate_left
  · simp only [Act.put, List.setIfInBounds_toArray, List.set_cons_zero, List.set_cons_succ, i64_w, i32_w]
    rfl
  refine pure_ (i := 3) (N := some 19) (v := ?_) (a' := ?_) #[true, true, true, true, false, false, false, false, false, false, false, false, false, false, false, false, false] rfl rfl (by kernel_rfl) (fun _ _ _ h => h) (Or.inl ⟨by rfl, ?_⟩) ?_ ?_
  rotate_left
  · intro w'
    go_simp
    with_reducible rfl
  rotate_left
  · simp only [Act.put, List.setIfInBounds_toArray, List.set_cons_zero, List.set_cons_succ, i64_w, i32_w]
    rfl
  refine pure_ (i := 6) (N := some 22) (v := ?_) (a' := ?_) #[true, true, true, true, false, false, true, false, false, false, false, false, false, false, false, false, false] rfl rfl (by kernel_rfl) (fun _ _ _ h => h) (Or.inl ⟨by rfl, ?_⟩) ?_ ?_
  rotate_left
  · intro w'
    go_simp
    with_reducible rfl
  rotate_left
  · simp only [Act.put, List.setIfInBounds_toArray, List.set_cons_zero, List.set_cons_succ, i64_w, i32_w]
    rfl
  refine pure_ (i := 7) (N := some 23) (v := ?_) (a' := ?_) #[true, true, true, true, false, false, true, true, false, false, false, false, false, false, false, false, false] rfl rfl (by kernel_rfl) (fun _ _ _ h => h) (Or.inl ⟨by rfl, ?_⟩) ?_ ?_
  rotate_left
  · intro w'
    go_simp
    with_reducible rfl
  rotate_left
  · simp only [Act.put, List.setIfInBounds_toArray, List.set_cons_zero, List.set_cons_succ, i64_w, i32_w]
    rfl
  refine pure_ (i := 8) (N := some 24) (v := ?_) (a' := ?_) #[true, true, true, true, false, false, true, true, true, false, false, false, false, false, false, false, false] rfl rfl (by kernel_rfl) (fun _ _ _ h => h) (Or.inl ⟨by rfl, ?_⟩) ?_ ?_
  rotate_left
  · intro w'
    go_simp
    with_reducible rfl
  rotate_left
  · simp only [Act.put, List.setIfInBounds_toArray, List.set_cons_zero, List.set_cons_succ, i64_w, i32_w]
    rfl
  refine pure_ (i := 9) (N := some 25) (v := ?_) (a' := ?_) #[true, true, true, true, false, false, true, true, true, true, false, false, false, false, false, false, false] rfl rfl (by kernel_rfl) (fun _ _ _ h => h) (Or.inl ⟨by rfl, ?_⟩) ?_ ?_
  rotate_left
  · intro w'
    go_simp
    with_reducible rfl
  rotate_left
  · simp only [Act.put, List.setIfInBounds_toArray, List.set_cons_zero, List.set_cons_succ, i64_w, i32_w]
    rfl
  refine take_ (i := 4) (N := some 20) (v := ?_) (a' := ?_) #[true, true, true, true, true, false, true, true, true, true, false, false, false, false, false, false, false] rfl rfl (by kernel_rfl) (fun _ _ _ h => h) (Or.inl ⟨by rfl, ?_⟩) hHeld ?_ ?_
  rotate_left
  · rintro w' ⟨s0, s1, s2⟩
    go_simp
    with_reducible rfl
  rotate_left
  · simp only [Act.put, List.setIfInBounds_toArray, List.set_cons_zero, List.set_cons_succ, i64_w, i32_w]
    rfl
  refine take_ (i := 5) (N := some 21) (a' := ?_) #[true, true, true, true, true, true, true, true, true, true, false, false, false, false, false, false, false] rfl rfl (by kernel_rfl) (fun _ _ _ h => h) (yieldsIf_load_mid (by rfl) 124 _ rfl bx 0 (by rfl) [.int .i64 x.cost, .int .i64 x.node] _ (fun w' h => h.2.1) Try.underlying124 rfl (by kernel_rfl)) hHeld ?_ ?_
  rotate_left
  · simp only [Act.put, List.setIfInBounds_toArray, List.set_cons_zero, List.set_cons_succ, i64_w, i32_w]
    rfl
  refine take_ (i := 10) (N := some 26) (v := ?_) (a' := ?_) #[true, true, true, true, true, true, true, true, true, true, true, false, false, false, false, false, false] rfl rfl (by kernel_rfl) (fun _ _ _ h => h) (Or.inl ⟨by rfl, ?_⟩) hHeld ?_ ?_
  rotate_left
  · rintro w' ⟨s0, s1, s2⟩
    go_simp
    with_reducible rfl
  rotate_left
  · simp only [Act.put, List.setIfInBounds_toArray, List.set_cons_zero, List.set_cons_succ, i64_w, i32_w]
    rfl
  refine pure_ (i := 11) (N := some 27) (v := ?_) (a' := ?_) #[true, true, true, true, true, true, true, true, true, true, true, true, false, false, false, false, false] rfl rfl (by kernel_rfl) (fun _ _ _ h => h) (Or.inl ⟨by rfl, ?_⟩) ?_ ?_
  rotate_left
  · intro w'
    go_simp
    with_reducible rfl
  rotate_left
  · simp only [Act.put, List.setIfInBounds_toArray, List.set_cons_zero, List.set_cons_succ, i64_w, i32_w]
    rfl
  refine one_ (i := 12) (N := some 28) #[true, true, true, true, true, true, true, true, true, true, true, true, true, false, false, false, false] rfl rfl (by kernel_rfl) (by decide) (fun K hK => ?_)
  refine value_ (w1 := ?_) (v := ?_) (by rfl) rfl ?_ ?_
  rotate_left 2
  · go_simp
    constructor
    · rfl
    · rfl
  refine hK.out _ _ ⟨((eff_alloc _ _).cell hHeld.1 (fun h => h)), (rangeAt_eff hHeld.2.1 (eff_alloc _ _) (fun h => h)), ((eff_alloc _ _).cell hHeld.2.2 (fun h => h))⟩ (fun hHeld => ?_)
  clear hK K
  refine norm_ (a' := ?_) ?_ ?_
  rotate_left
  · show Act.put _ (some 28) _ = _
    simp only [Act.put, List.setIfInBounds_toArray, List.set_cons_zero, List.set_cons_succ, i64_w, i32_w]
    rfl
  refine one_ (i := 13) (N := some 29) #[true, true, true, true, true, true, true, true, true, true, true, true, true, true, false, false, false] rfl rfl (by kernel_rfl) (by decide) (fun K hK => ?_)
  obtain ⟨v1, w3, hr3, ho3, hg3, hn3, ha3⟩ := AP.out W1'.drew (E1.out.drew)
  refine value_ (w1 := w3) (v := v1) (by rfl) rfl (exec_append rfl (by rfl) (by rfl) hr3) ?_
  have HE3 := Lib.hid (Eff.of_grown hg3)
  have HO3 := Lib.hid ho3
  have HA3 := Lib.hid ha3
  obtain ⟨A3, c3', hv3⟩ := own_slice ho3
  clear hr3 ho3 hg3 hn3 ha3
  refine hK.out _ _ ⟨(HE3.out.cell hHeld.1 gne.out), (rangeAt_eff hHeld.2.1 HE3.out (by exact bne.out)), (HE3.out.cell hHeld.2.2 gne.out)⟩ (fun hHeld => ?_)
  clear hK K
  refine norm_ (a' := ?_) ?_ ?_
  rotate_left
  · show Act.put _ (some 29) _ = _
    simp only [Act.put, List.setIfInBounds_toArray, List.set_cons_zero, List.set_cons_succ, i64_w, i32_w]
    rfl
  refine pure_ (i := 14) (N := some 30) (v := ?_) (a' := ?_) #[true, true, true, true, true, true, true, true, true, true, true, true, true, true, true, false, false] rfl rfl (by kernel_rfl) (fun _ _ _ h => h) (Or.inl ⟨by rfl, ?_⟩) ?_ ?_
  rotate_left
  · intro w'
    go_simp
    with_reducible rfl
  rotate_left
  · simp only [Act.put, List.setIfInBounds_toArray, List.set_cons_zero, List.set_cons_succ, i64_w, i32_w]
    rfl
  refine pure_ (i := 15) (N := some 31) (v := ?_) (a' := ?_) #[true, true, true, true, true, true, true, true, true, true, true, true, true, true, true, true, false] rfl rfl (by kernel_rfl) (fun _ _ _ h => h) (Or.inl ⟨by rfl, ?_⟩) ?_ ?_
  rotate_left
  · intro w'
    go_simp
    with_reducible rfl
  rotate_left
  · simp only [Act.put, List.setIfInBounds_toArray, List.set_cons_zero, List.set_cons_succ, i64_w, i32_w]
    rfl
  refine last_ (i := 16) (N := none) #[true, true, true, true, true, true, true, true, true, true, true, true, true, true, true, true, true] rfl rfl (by kernel_rfl) (by decide) (fun K hK => ?_)
  have hb3 := HE3.out.heap ((eff_alloc W1'.drew _).heap GB.out (fun h => h)) gne.out
  refine skip_ (w1 := w3.setCell ⟨g, 1, none⟩ v1) (by rfl) rfl (run_u (run_storeAt_one (by kernel_rfl) (by rw [hv3]; rfl) (o := .slice A es.length cap) (by rw [← HV.out]; simp [World.cell?, hb3]) (frozen_blk hb3 1))) ?_
  refine hK.out _ _ ?_
  clear hK K
  refine done_ (by kernel_rfl) ?_
  have hb3' := HE3.out.heap ((eff_alloc W1'.drew _).heap (show W1'.drew.heap[g]? = _ from GB.out) (fun h => h)) gne.out
  obtain ⟨W4, hW4⟩ : ∃ W, W = w3.setCell ⟨g, 1, none⟩ v1 := ⟨_, rfl⟩
  rw [← hW4]
  have G4 : Hid (W4.heap[g]? = some (.cells #[lessO, v1, .map (some mb), .int .i64 nx, .int .i64 ck] 138 (0, 0))) := by
    show _ = _
    rw [hW4]
    exact set_cell hb3' 1 v1
  have HVO : Hid ((Value.slice A es.length cap).ownBlock = hv.ownBlock) := by show _ = _; rw [HV.out]
  -- what has turned since the call began
  have E4 : Hid (Eff (own g hv mb) w W4) := by
    rw [hW4]
    have h1 : Eff (own g hv mb) w (W1'.drew.alloc (.cells (enc (⟨x, nx, ck⟩ : En K.O2)).toArray 140)) := (E1.out.drew.alloc _).mono (fun _ h => h.elim)
    exact (h1.trans HE3.out (fun k h => .inl (.inr (.inl (by rw [← HVO.out]; exact h))))).trans (eff_setCell w3 g 1 v1) (fun k h => .inl (.inl h))
  have ha4 : v1.ownBlock = hv.ownBlock ∨ ∃ b, v1.ownBlock = some b ∧ w.heap.size < b := by
    rcases HA3.out with h | h
    · exact .inl (h.trans HVO.out)
    · refine .inr ⟨_, h, ?_⟩
      have := E1.out.size
      have := Z1.out
      simp
      omega
  have HA4 := Lib.hid ha4
  have hgv : v1.ownBlock ≠ some g := by
    rcases ha4 with h | ⟨b, h, hb⟩
    · rw [h]; exact HGN.out
    · rw [h]
      intro e
      have h1 := (Array.getElem?_eq_some_iff.1 HQ.out.blk).1
      cases e
      omega
  have hmv : v1.ownBlock ≠ some mb := by
    have hm := HQ.out.map
    rcases ha4 with h | ⟨b, h, hb⟩
    · rw [h]; exact Row.neM HQ.out.row hm
    · rw [h]
      intro e
      obtain ⟨l, clk, hl, _⟩ := hm
      have h1 := (Array.getElem?_eq_some_iff.1 hl.1).1
      cases e
      omega
  have hgm : g ≠ mb := by
    obtain ⟨l, clk, hl, _⟩ := HQ.out.map
    intro e
    have := HQ.out.blk
    rw [e, hl.1] at this
    cases this
  have R4 : Hid (Row 140 B W4 v1 (es ++ [⟨x, nx, ck⟩])) := by
    have h1 : Row 140 B w3 v1 (es ++ [⟨x, nx, ck⟩]) := by
      have := HO3.out
      rw [← flat_snoc] at this
      unfold Row
      rw [List.length_append]
      exact this
    rw [hW4]
    exact h1.eff (eff_setCell w3 g 1 v1) (fun k hk e => hgv (by rw [hk, e]))
  have M4 : Hid (MapAt W4 mb (hidx es)) := by
    have h1 : MapAt (W1'.drew.alloc (.cells (enc (⟨x, nx, ck⟩ : En K.O2)).toArray 140)) mb (hidx es) := HQ.out.map.eff (E1.out.drew.alloc _) (fun h => h)
    rw [hW4]
    exact (h1.eff HE3.out (fun h => by
      have := Row.neM HQ.out.row HQ.out.map
      rw [← HVO.out] at this
      exact this h.symm)).eff (eff_setCell w3 g 1 v1) (fun h => hgm h.symm)
  obtain ⟨l, clk, hml, hf⟩ := M4.out
  have hfn : l.find? (·.1 == nx) = none := by
    have h1 := hf nx
    rw [hidx_none.2 HNX.out] at h1
    cases hfd : l.find? (·.1 == nx) with
    | none => rfl
    | some y => rw [getL, hfd] at h1; cases h1
  obtain ⟨w5, hr5, he5, hz5, hm5⟩ := run_mapUpdateL (P := Try.prog) (T := 87) Try.underlying87 Try.underlying3 hml nx (es.length : Int) hfn
  have G5 : Hid (w5.heap[g]? = some (.cells #[lessO, v1, .map (some mb), .int .i64 nx, .int .i64 ck] 138 (0, 0))) := he5.heap G4.out hgm
  have R5 : Hid (Row 140 B w5 v1 (es ++ [⟨x, nx, ck⟩])) := R4.out.eff he5 (fun k hk e => hmv (by rw [hk, e]))
  have M5 : Hid (MapAt w5 mb (hidx (es ++ [⟨x, nx, ck⟩]))) := ⟨_, _, hm5, fun k => by rw [getL_snoc l nx _ clk hfn, ← hf k]; exact (hidx_snoc es ⟨x, nx, ck⟩ HNX.out k).symm⟩
  have E5 : Hid (Eff (own g hv mb) w w5) := E4.out.trans he5 (fun k h => .inl (.inr (.inr h)))
  have d0 : W4.cell? ⟨g, 2, none⟩ = some (.map (some mb)) := by simp [World.cell?, G4.out]
  have HR5 := Lib.hid hr5
  have HGV := Lib.hid hgv
  have HMV := Lib.hid hmv
  have HGM := Lib.hid hgm
  clear hb3' hW4 hml hf hfn he5 hz5 hm5 hr5 hHeld ha4 hgv hmv hgm c1 c2 c3 CC X1
  go_wp2_with (first | (at_mapUpdate; refine wpL_u rfl rfl (run_u HR5.out) ?_))
  have hwx : IntKind.i64.wrap (nx + 1) = nx + 1 := IntWalk.i64_in _ (by omega)
  have hwc : IntKind.i64.wrap (ck + 1) = ck + 1 := IntWalk.i64_in _ (by omega)
  have d1 : w5.cell? ⟨g, 3, none⟩ = some (.int .i64 nx) := by simp [World.cell?, G5.out]
  have d2 : w5.cell? ⟨g, 4, none⟩ = some (.int .i64 ck) := by simp [World.cell?, G5.out]
  have G6 : Hid ((w5.drew.setCell ⟨g, 3, none⟩ (.int .i64 (nx + 1))).heap[g]? = some (.cells #[lessO, v1, .map (some mb), .int .i64 (nx + 1), .int .i64 ck] 138 (0, 0))) := set_cell (show w5.drew.heap[g]? = _ from G5.out) 3 _
  refine start_ (n := 18) (S := fun w' => w'.cell? ⟨g, 3, none⟩ = some (.int .i64 nx) ∧ w'.cell? ⟨g, 4, none⟩ = some (.int .i64 ck)) (ds := [14, 17]) #[false, false, false, false, false, false, false, false, false, false, false, false, false, false, false, false, false, false] (by kernel_rfl) rfl rfl ⟨d1, d2⟩ (fun hHeld => ?_)
  refine pure_ (i := 0) (N := some 38) (v := ?_) (a' := ?_) #[true, false, false, false, false, false, false, false, false, false, false, false, false, false, false, false, false, false] rfl rfl (by kernel_rfl) (fun _ _ _ h => h) (Or.inl ⟨by rfl, ?_⟩) ?_ ?_
  rotate_left
  · intro w'
    go_simp
    with_reducible rfl
  rotate_left
  · simp only [Act.put, List.setIfInBounds_toArray, List.set_cons_zero, List.set_cons_succ, i64_w, i32_w]
    rfl
  refine pure_ (i := 1) (N := some 39) (v := ?_) (a' := ?_) #[true, true, false, false, false, false, false, false, false, false, false, false, false, false, false, false, false, false] rfl rfl (by kernel_rfl) (fun _ _ _ h => h) (Or.inl ⟨by rfl, ?_⟩) ?_ ?_
  rotate_left
  · intro w'
    go_simp
    with_reducible rfl
  rotate_left
  · simp only [Act.put, List.setIfInBounds_toArray, List.set_cons_zero, List.set_cons_succ, i64_w, i32_w]
    rfl
  refine pure_ (i := 2) (N := some 40) (v := ?_) (a' := ?_) #[true, true, true, false, false, false, false, false, false, false, false, false, false, false, false, false, false, false] rfl rfl (by kernel_rfl) (fun _ _ _ h => h) (Or.inl ⟨by rfl, ?_⟩) ?_ ?_
  rotate_left
  · intro w'
    go_simp
    with_reducible rfl
  rotate_left
  · simp only [Act.put, List.setIfInBounds_toArray, List.set_cons_zero, List.set_cons_succ, i64_w, i32_w]
    rfl
  refine pure_ (i := 3) (N := some 41) (v := ?_) (a' := ?_) #[true, true, true, true, false, false, false, false, false, false, false, false, false, false, false, false, false, false] rfl rfl (by kernel_rfl) (fun _ _ _ h => h) (Or.inl ⟨by rfl, ?_⟩) ?_ ?_
  rotate_left
  · intro w'
    go_simp
    with_reducible rfl
  rotate_left
  · simp only [Act.put, List.setIfInBounds_toArray, List.set_cons_zero, List.set_cons_succ, i64_w, i32_w]
    rfl
  refine pure_ (i := 4) (N := some 42) (v := ?_) (a' := ?_) #[true, true, true, true, true, false, false, false, false, false, false, false, false, false, false, false, false, false] rfl rfl (by kernel_rfl) (fun _ _ _ h => h) (Or.inl ⟨by rfl, ?_⟩) ?_ ?_
  rotate_left
  · intro w'
    go_simp
    with_reducible rfl
  rotate_left
  · simp only [Act.put, List.setIfInBounds_toArray, List.set_cons_zero, List.set_cons_succ, i64_w, i32_w]
    rfl
  refine pure_ (i := 7) (N := some 45) (v := ?_) (a' := ?_) #[true, true, true, true, true, false, false, true, false, false, false, false, false, false, false, false, false, false] rfl rfl (by kernel_rfl) (fun _ _ _ h => h) (Or.inl ⟨by rfl, ?_⟩) ?_ ?_
  rotate_left
  · intro w'
    go_simp
    with_reducible rfl
  rotate_left
  · simp only [Act.put, List.setIfInBounds_toArray, List.set_cons_zero, List.set_cons_succ, i64_w, i32_w]
    rfl
  refine pure_ (i := 8) (N := some 46) (v := ?_) (a' := ?_) #[true, true, true, true, true, false, false, true, true, false, false, false, false, false, false, false, false, false] rfl rfl (by kernel_rfl) (fun _ _ _ h => h) (Or.inl ⟨by rfl, ?_⟩) ?_ ?_
  rotate_left
  · intro w'
    go_simp
    with_reducible rfl
  rotate_left
  · simp only [Act.put, List.setIfInBounds_toArray, List.set_cons_zero, List.set_cons_succ, i64_w, i32_w]
    rfl
  refine pure_ (i := 9) (N := some 47) (v := ?_) (a' := ?_) #[true, true, true, true, true, false, false, true, true, true, false, false, false, false, false, false, false, false] rfl rfl (by kernel_rfl) (fun _ _ _ h => h) (Or.inl ⟨by rfl, ?_⟩) ?_ ?_
  rotate_left
  · intro w'
    go_simp
    with_reducible rfl
  rotate_left
  · simp only [Act.put, List.setIfInBounds_toArray, List.set_cons_zero, List.set_cons_succ, i64_w, i32_w]
    rfl
  refine take_ (i := 5) (N := some 43) (v := ?_) (a' := ?_) #[true, true, true, true, true, true, false, true, true, true, false, false, false, false, false, false, false, false] rfl rfl (by kernel_rfl) (fun _ _ _ h => h) (Or.inl ⟨by rfl, ?_⟩) hHeld ?_ ?_
  rotate_left
  · rintro w' ⟨s0, s1⟩
    go_simp
    with_reducible rfl
  rotate_left
  · simp only [Act.put, List.setIfInBounds_toArray, List.set_cons_zero, List.set_cons_succ, i64_w, i32_w]
    rfl
  refine pure_ (i := 6) (N := some 44) (v := ?_) (a' := ?_) #[true, true, true, true, true, true, true, true, true, true, false, false, false, false, false, false, false, false] rfl rfl (by kernel_rfl) (fun _ _ _ h => h) (Or.inl ⟨by rfl, ?_⟩) ?_ ?_
  rotate_left
  · intro w'
    go_simp
    with_reducible rfl
  rotate_left
  · simp only [Act.put, List.setIfInBounds_toArray, List.set_cons_zero, List.set_cons_succ, i64_w, i32_w]
    rfl
  refine take_ (i := 10) (N := some 48) (v := ?_) (a' := ?_) #[true, true, true, true, true, true, true, true, true, true, true, false, false, false, false, false, false, false] rfl rfl (by kernel_rfl) (fun _ _ _ h => h) (Or.inl ⟨by rfl, ?_⟩) hHeld ?_ ?_
  rotate_left
  · rintro w' ⟨s0, s1⟩
    go_simp
    with_reducible rfl
  rotate_left
  · simp only [Act.put, List.setIfInBounds_toArray, List.set_cons_zero, List.set_cons_succ, i64_w, i32_w]
    rfl
  refine pure_ (i := 11) (N := some 49) (v := ?_) (a' := ?_) #[true, true, true, true, true, true, true, true, true, true, true, true, false, false, false, false, false, false] rfl rfl (by kernel_rfl) (fun _ _ _ h => h) (Or.inl ⟨by rfl, ?_⟩) ?_ ?_
  rotate_left
  · intro w'
    go_simp
    with_reducible rfl
  rotate_left
  · simp only [Act.put, List.setIfInBounds_toArray, List.set_cons_zero, List.set_cons_succ, i64_w, i32_w]
    rfl
  refine pure_ (i := 12) (N := some 50) (v := ?_) (a' := ?_) #[true, true, true, true, true, true, true, true, true, true, true, true, true, false, false, false, false, false] rfl rfl (by kernel_rfl) (fun _ _ _ h => h) (Or.inl ⟨by rfl, ?_⟩) ?_ ?_
  rotate_left
  · intro w'
    go_simp
    with_reducible rfl
  rotate_left
  · simp only [Act.put, List.setIfInBounds_toArray, List.set_cons_zero, List.set_cons_succ, i64_w, i32_w]
    rfl
  refine pure_ (i := 13) (N := some 51) (v := ?_) (a' := ?_) #[true, true, true, true, true, true, true, true, true, true, true, true, true, true, false, false, false, false] rfl rfl (by kernel_rfl) (fun _ _ _ h => h) (Or.inl ⟨by rfl, ?_⟩) ?_ ?_
  rotate_left
  · intro w'
    go_simp
    with_reducible rfl
  rotate_left
  · simp only [Act.put, List.setIfInBounds_toArray, List.set_cons_zero, List.set_cons_succ, i64_w, i32_w]
    rfl
  refine last_ (i := 14) (N := none) #[true, true, true, true, true, true, true, true, true, true, true, true, true, true, true, false, false, false] rfl rfl (by kernel_rfl) (by decide) (fun K hK => ?_)
  refine skip_ (w1 := w5.drew.setCell ⟨g, 3, none⟩ (.int .i64 (nx + 1))) (by rfl) rfl (run_u (run_storeAt_one (w := w5.drew) (by kernel_rfl) rfl (o := .int .i64 nx) d1 (frozen_blk (W := w5.drew) G5.out 3))) ?_
  refine hK.out _ _ ?_
  clear hK K
  refine pure_ (i := 15) (N := some 52) (v := ?_) (a' := ?_) #[true, true, true, true, true, true, true, true, true, true, true, true, true, true, true, true, false, false] rfl rfl (by kernel_rfl) (fun _ _ _ h => h) (Or.inl ⟨by rfl, ?_⟩) ?_ ?_
  rotate_left
  · intro w'
    go_simp
    with_reducible rfl
  rotate_left
  · simp only [Act.put, List.setIfInBounds_toArray, List.set_cons_zero, List.set_cons_succ, i64_w, i32_w]
    rfl
  refine pure_ (i := 16) (N := some 53) (v := ?_) (a' := ?_) #[true, true, true, true, true, true, true, true, true, true, true, true, true, true, true, true, true, false] rfl rfl (by kernel_rfl) (fun _ _ _ h => h) (Or.inl ⟨by rfl, ?_⟩) ?_ ?_
  rotate_left
  · intro w'
    go_simp
    with_reducible rfl
  rotate_left
  · simp only [Act.put, List.setIfInBounds_toArray, List.set_cons_zero, List.set_cons_succ, i64_w, i32_w]
    rfl
  refine last_ (i := 17) (N := none) #[true, true, true, true, true, true, true, true, true, true, true, true, true, true, true, true, true, true] rfl rfl (by kernel_rfl) (by decide) (fun K hK => ?_)
  refine skip_ (w1 := (w5.drew.setCell ⟨g, 3, none⟩ (.int .i64 (nx + 1))).setCell ⟨g, 4, none⟩ (.int .i64 (ck + 1))) (by rfl) rfl (run_u (run_storeAt_one (by kernel_rfl) rfl (o := .int .i64 ck) (by simp [World.cell?, G6.out]) (frozen_blk G6.out 4))) ?_
  refine hK.out _ _ ?_
  clear hK K
  refine done_ (by kernel_rfl) ?_
  obtain ⟨W7, hW7⟩ : ∃ W, W = (w5.drew.setCell ⟨g, 3, none⟩ (.int .i64 (nx + 1))).setCell ⟨g, 4, none⟩ (.int .i64 (ck + 1)) := ⟨_, rfl⟩
  rw [← hW7]
  have G7 : Hid (W7.heap[g]? = some (.cells #[lessO, v1, .map (some mb), .int .i64 (nx + 1), .int .i64 (ck + 1)] 138 (0, 0))) := by
    show _ = _
    rw [hW7]
    exact set_cell G6.out 4 _
  have E67 : Hid (Eff (fun k => k = g) w5 W7) := by
    rw [hW7]
    exact ((Eff.refl _ w5).drew.trans (eff_setCell w5.drew g 3 (.int .i64 (nx + 1))) (fun _ h => .inl h)).trans (eff_setCell (w5.drew.setCell ⟨g, 3, none⟩ (.int .i64 (nx + 1))) g 4 (.int .i64 (ck + 1))) (fun _ h => .inl h)
  have E7 : Hid (Eff (own g hv mb) w W7) := E5.out.trans E67.out (fun k h => .inl (.inl h))
  have HQ7 : Hid (IsQ 138 140 lessO B W7 g v1 mb (es ++ [⟨x, nx, ck⟩]) (nx + 1) (ck + 1)) :=
    ⟨G7.out, HQ.out.gB, HQ.out.mB, R5.out.eff E67.out (fun k hk e => HGV.out (by rw [hk, e])), M5.out.eff E67.out (fun h => HGM.out h.symm), nodup_snoc HQ.out.nd HNX.out⟩
  have CU := Lib.hid (up_O HQ7.out es.length ⟨x, nx, ck⟩ (by simp) (heap_snoc HH.out) (by simp; omega))
  clear hHeld d0 d1 d2 hW7 hwx hwc
  go_wp2_with fail
  refine CU.out.mono ?_
  rintro r w8 ⟨rfl, es', p, hq8, hp8, hd8, hi8, hk8, he8⟩
  have H8 := Lib.hid (And.intro hq8 (And.intro hp8 (heap_of hd8 (hk8 (kids_snoc es ⟨x, nx, ck⟩)))))
  have HE8 := Lib.hid he8
  clear hq8 hp8 hd8 hi8 hk8 he8
  go_wp2_with fail
  go_ret
  refine ⟨rfl, v1, es', H8.out.1, H8.out.2.1, H8.out.2.2, E7.out.trans HE8.out (fun k h => ?_), HA4.out.imp id (fun ⟨b, h1, h2⟩ => ⟨b, h1, Nat.le_of_lt h2⟩)⟩
  rcases h with h | h
  · rcases HA4.out with h1 | ⟨b, h1, h2⟩
    · exact .inl (.inr (.inl (by rw [← h1]; exact h)))
    · rw [h1] at h
      cases h
      exact .inr (Nat.le_of_lt h2)
  · exact .inl (.inr (.inr h))
end Go.Proofs.Ytepfbhigeghjjaa.Q
namespace Go.Proofs.Ytepfbhigeghjjaa.Q
open Go.RowKit Go.Proofs.YtepfbhigeghjjaaW.PrintLast
set_option linter.unusedVariables false
set_option linter.unusedSimpArgs false

/-! ### Pop -/
set_option maxHeartbeats 2000000 in
set_option maxRecDepth 100000 in
theorem popNone_O {B : Nat} {w : World} {g mb : Nat} {hv : Value} {nx ck : Int} (hq : IsQ 138 140 lessO B w g hv mb ([] : List (En K.O2)) nx ck) :
    Calls Try.prog 93 #[.pointer (some ⟨g, 0, none⟩)] w fun r w' => r = .returned (.tuple #[.agg #[.int .i64 0, .int .i64 0], .bool false]) ∧ Below w.heap.size w w' := by
  obtain ⟨A, cap, hvA⟩ := hq.lens
  have c0 : w.cell? ⟨g, 1, none⟩ = some (.slice A 0 cap) := by rw [blk_cell1 hq.blk, hvA]; rfl
  have c1 : (w.alloc (.cells #[.int .i64 0, .int .i64 0] 124)).cell? ⟨g, 1, none⟩ = some (.slice A 0 cap) := (eff_alloc w _).cell c0 (fun h => h)
  clear hq hvA c0
  go_enter Try.func93, Try.ntmps93
  go_wp2
  refine bodyPost_ret (res_ct rfl _ _ w.heap.size [.int .i64 0, .int .i64 0] (by rfl) ?_ Try.underlying124 rfl (by kernel_rfl)) rfl ?_
  · refine box_range (L := [.int .i64 0, .int .i64 0]) (t := 124) ?_ 0 _ (fun j v h => by rw [Nat.zero_add]; exact h)
    exact (two_alloc w _ _).1
  · exact ⟨rfl, ((Below.refl _ _).alloc (Nat.le_refl _) _).alloc (by simp) _⟩
set_option maxHeartbeats 2000000 in
set_option maxRecDepth 100000 in
theorem pop_O {B : Nat} {w : World} {g mb : Nat} {hv : Value} {es : List (En K.O2)} {nx ck : Int} (hq : IsQ 138 140 lessO B w g hv mb es nx ck) (hh : Heap es) (e : En K.O2) (he : es[0]? = some e) (hlen : es.length ≤ 1000000000) :
    Calls Try.prog 93 #[.pointer (some ⟨g, 0, none⟩)] w (PopPost 138 140 lessO B w g hv mb es nx ck e) := by
  have hpos : 0 < es.length := (List.getElem?_eq_some_iff.1 he).1
  obtain ⟨m, hm⟩ : ∃ m, es.length = m + 1 := ⟨es.length - 1, by omega⟩
  obtain ⟨hb, cap, cur, rfl, hB, hh2, hcap, hmx, hs, hl⟩ := hq.row.form hpos
  have bl : Hid (hb < w.heap.size) := (Array.getElem?_eq_some_iff.1 hh2).1
  have gl : Hid (g < w.heap.size) := (Array.getElem?_eq_some_iff.1 hq.blk).1
  clear hh2 hs hl cur
  obtain ⟨el, hel⟩ : ∃ x, es[m]? = some x := ⟨_, List.getElem?_eq_getElem (by omega)⟩
  -- the result's box
  obtain ⟨W1, hW1⟩ : ∃ W, W = w.alloc (.cells #[.int .i64 0, .int .i64 0] 124) := ⟨_, rfl⟩
  obtain ⟨rb, hrb⟩ : ∃ b, b = w.heap.size := ⟨_, rfl⟩
  have E1 : Hid (Eff (fun _ => False) w W1) := by rw [hW1]; exact eff_alloc w _
  have Z1 : Hid (W1.heap.size = w.heap.size + 1) := by show _ = _; rw [hW1]; simp
  have RB1 : Hid (W1.heap[rb]? = some (.cells #[.int .i64 0, .int .i64 0] 124 (0, 0))) := by show _ = _; rw [hrb, hW1]; exact heap_alloc_new w _
  have Q1 : Hid (IsQ 138 140 lessO B W1 g (.slice (some ⟨hb, 0, none⟩) es.length cap) mb es nx ck) := hq.eff E1.out (fun _ _ h => h)
  have c1 : W1.cell? ⟨g, 1, none⟩ = some (.slice (some ⟨hb, 0, none⟩) es.length cap) := blk_cell1 Q1.out.blk
  have r0 : W1.rangeAt hb 0 (enc e) := by have := Q1.out.row.range 0 e he; rwa [Nat.zero_mul] at this
  have RX := Lib.hid hrb
  have HM := Lib.hid hm
  have HE0 := Lib.hid he
  have HEL := Lib.hid hel
  have HH := Lib.hid hh
  have HQ := Lib.hid hq
  have hz : ((es.length : Int) == 0) = false := beq_eq_false_iff_ne.2 (by omega)
  have c0 : (w.alloc (.cells #[.int .i64 0, .int .i64 0] 124)).cell? ⟨g, 1, none⟩ = some (.slice (some ⟨hb, 0, none⟩) es.length cap) := by rw [← hW1]; exact c1
  have hpz : (0 : Int) < (es.length : Int) := by omega
  have hwl : IntKind.i64.wrap ((es.length : Int) - 1) = (m : Int) := by rw [IntWalk.i64_in _ (by omega)]; omega
  have hcm : (m : Int) ≤ (cap : Int) := by omega
  have hcm0 : (0 : Int) ≤ (m : Int) := by omega
  have HCAP := Lib.hid hcap
  clear hq hh he hel hm hrb hcap
  go_enter Try.func93, Try.ntmps93
  go_wp2_with fail
  rw [← hW1, ← RX.out]
  have gp1 : Hid (¬ g = W1.heap.size) := fun h => by have h1 := gl.out; have h2 := Z1.out; omega
  have gp2 : Hid (¬ hb = W1.heap.size) := fun h => by have h1 := bl.out; have h2 := Z1.out; omega
  clear hW1 c0
  refine start_ (n := 15) (S := fun w' => w'.cell? ⟨g, 1, none⟩ = some (.slice (some ⟨hb, 0, none⟩) es.length cap) ∧ w'.rangeAt hb 0 (enc e)) (ds := []) #[false, false, false, false, false, false, false, false, false, false, false, false, false, false, false] (by kernel_rfl) rfl rfl ⟨c1, r0⟩ (fun hHeld => ?_)
  refine pure_ (i := 0) (N := some 15) (v := ?_) (a' := ?_) #[true, false, false, false, false, false, false, false, false, false, false, false, false, false, false] rfl rfl (by kernel_rfl) (fun _ _ _ h => h) (Or.inl ⟨by rfl, ?_⟩) ?_ ?_
  rotate_left
  · intro w'
    go_simp
    with_reducible rfl
  rotate_left
  · simp only [Act.put, List.setIfInBounds_toArray, List.set_cons_zero, List.set_cons_succ, i64_w, i32_w]
    rfl
  refine pure_ (i := 1) (N := some 16) (v := ?_) (a' := ?_) #[true, true, false, false, false, false, false, false, false, false, false, false, false, false, false] rfl rfl (by kernel_rfl) (fun _ _ _ h => h) (Or.inl ⟨by rfl, ?_⟩) ?_ ?_
  rotate_left
  · intro w'
    go_simp
    with_reducible rfl
  rotate_left
  · simp only [Act.put, List.setIfInBounds_toArray, List.set_cons_zero, List.set_cons_succ, i64_w, i32_w]
    rfl
  refine pure_ (i := 2) (N := some 17) (v := ?_) (a' := ?_) #[true, true, true, false, false, false, false, false, false, false, false, false, false, false, false] rfl rfl (by kernel_rfl) (fun _ _ _ h => h) (Or.inl ⟨by rfl, ?_⟩) ?_ ?_
  rotate_left
  · intro w'
    go_simp
    with_reducible rfl
  rotate_left
  · simp only [Act.put, List.setIfInBounds_toArray, List.set_cons_zero, List.set_cons_succ, i64_w, i32_w]
    rfl
  refine pure_ (i := 6) (N := some 21) (v := ?_) (a' := ?_) #[true, true, true, false, false, false, true, false, false, false, false, false, false, false, false] rfl rfl (by kernel_rfl) (fun _ _ _ h => h) (Or.inl ⟨by rfl, ?_⟩) ?_ ?_
  rotate_left
  · intro w'
    go_simp
    with_reducible rfl
  rotate_left
  · simp only [Act.put, List.setIfInBounds_toArray, List.set_cons_zero, List.set_cons_succ, i64_w, i32_w]
    rfl
  refine pure_ (i := 7) (N := some 22) (v := ?_) (a' := ?_) #[true, true, true, false, false, false, true, true, false, false, false, false, false, false, false] rfl rfl (by kernel_rfl) (fun _ _ _ h => h) (Or.inl ⟨by rfl, ?_⟩) ?_ ?_
  rotate_left
  · intro w'
    go_simp
    with_reducible rfl
  rotate_left
  · simp only [Act.put, List.setIfInBounds_toArray, List.set_cons_zero, List.set_cons_succ, i64_w, i32_w]
    rfl
  refine pure_ (i := 8) (N := some 23) (v := ?_) (a' := ?_) #[true, true, true, false, false, false, true, true, true, false, false, false, false, false, false] rfl rfl (by kernel_rfl) (fun _ _ _ h => h) (Or.inl ⟨by rfl, ?_⟩) ?_ ?_
  rotate_left
  · intro w'
    go_simp
    with_reducible rfl
  rotate_left
  · simp only [Act.put, List.setIfInBounds_toArray, List.set_cons_zero, List.set_cons_succ, i64_w, i32_w]
    rfl
  refine take_ (i := 3) (N := some 18) (v := ?_) (a' := ?_) #[true, true, true, true, false, false, true, true, true, false, false, false, false, false, false] rfl rfl (by kernel_rfl) (fun _ _ _ h => h) (Or.inl ⟨by rfl, ?_⟩) hHeld ?_ ?_
  rotate_left
  · rintro w' ⟨s0, s1⟩
    go_simp
    with_reducible rfl
  rotate_left
  · simp only [Act.put, List.setIfInBounds_toArray, List.set_cons_zero, List.set_cons_succ, i64_w, i32_w]
    rfl
  refine pure_ (i := 4) (N := some 19) (v := ?_) (a' := ?_) #[true, true, true, true, true, false, true, true, true, false, false, false, false, false, false] rfl rfl (by kernel_rfl) (fun _ _ _ h => h) (Or.inl ⟨by rfl, ?_⟩) ?_ ?_
  rotate_left
  · intro w'
    go_simp
    with_reducible rfl
  rotate_left
  · simp only [Act.put, List.setIfInBounds_toArray, List.set_cons_zero, List.set_cons_succ, i64_w, i32_w]
    rfl
  refine take_ (i := 5) (N := some 20) (a' := ?_) #[true, true, true, true, true, true, true, true, true, false, false, false, false, false, false] rfl rfl (by kernel_rfl) (fun _ _ _ h => h) (yieldsIf_load_mid (by rfl) 140 _ rfl hb 0 (by rfl) (enc e) _ (fun w' h => h.2) Try.underlying140 rfl (by kernel_rfl)) hHeld ?_ ?_
  rotate_left
  · simp only [Act.put, List.setIfInBounds_toArray, List.set_cons_zero, List.set_cons_succ, i64_w, i32_w]
    rfl
  refine take_ (i := 9) (N := some 24) (v := ?_) (a' := ?_) #[true, true, true, true, true, true, true, true, true, true, false, false, false, false, false] rfl rfl (by kernel_rfl) (fun _ _ _ h => h) (Or.inl ⟨by rfl, ?_⟩) hHeld ?_ ?_
  rotate_left
  · rintro w' ⟨s0, s1⟩
    go_simp
    with_reducible rfl
  rotate_left
  · simp only [Act.put, List.setIfInBounds_toArray, List.set_cons_zero, List.set_cons_succ, i64_w, i32_w]
    rfl
  refine pure_ (i := 10) (N := some 25) (v := ?_) (a' := ?_) #[true, true, true, true, true, true, true, true, true, true, true, false, false, false, false] rfl rfl (by kernel_rfl) (fun _ _ _ h => h) (Or.inl ⟨by rfl, ?_⟩) ?_ ?_
  rotate_left
  · intro w'
    go_simp
    with_reducible rfl
  rotate_left
  · simp only [Act.put, List.setIfInBounds_toArray, List.set_cons_zero, List.set_cons_succ, i64_w, i32_w]
    rfl
  refine pure_ (i := 11) (N := some 26) (v := ?_) (a' := ?_) #[true, true, true, true, true, true, true, true, true, true, true, true, false, false, false] rfl rfl (by kernel_rfl) (fun _ _ _ h => h) (Or.inl ⟨by rfl, ?_⟩) ?_ ?_
  rotate_left
  · intro w'
    go_simp
    with_reducible rfl
  rotate_left
  · simp only [Act.put, List.setIfInBounds_toArray, List.set_cons_zero, List.set_cons_succ, i64_w, i32_w]
    rfl
  refine one_ (i := 12) (N := some 4) #[true, true, true, true, true, true, true, true, true, true, true, true, true, false, false] rfl rfl (by kernel_rfl) (by decide) (fun K hK => ?_)
  refine value_ (w1 := ?_) (v := ?_) (by rfl) rfl ?_ ?_
  rotate_left 2
  · go_simp
    constructor
    · rfl
    · rfl
  refine hK.out _ _ ⟨((eff_alloc _ _).cell hHeld.1 (fun h => h)), (rangeAt_eff hHeld.2 (eff_alloc _ _) (fun h => h))⟩ (fun hHeld => ?_)
  clear hK K
  refine norm_ (a' := ?_) ?_ ?_
  rotate_left
  · show Act.put _ (some 4) _ = _
    simp only [Act.put, List.setIfInBounds_toArray, List.set_cons_zero, List.set_cons_succ, i64_w, i32_w]
    rfl
  refine one_ (i := 13) (N := none) #[true, true, true, true, true, true, true, true, true, true, true, true, true, true, false] rfl rfl (by kernel_rfl) (by decide) (fun K hK => ?_)
  refine skip_ (w1 := (W1.drew.alloc (.cells #[.int .i64 0, .int .i64 0, .int .i64 0, .int .i64 0] 140)).setCells W1.heap.size 0 (enc e)) (by rfl) rfl (run_u (run_storeAt_mid _ W1.heap.size 0 140 (enc e).toArray (box_there (heap_alloc_new W1.drew _) rfl) (by kernel_rfl) (enc_all e))) ?_
  refine hK.out _ _ ⟨((eff_setCells W1.heap.size (enc e) 0 _).1.cell hHeld.1 gp1.out), (rangeAt_eff hHeld.2 (eff_setCells W1.heap.size (enc e) 0 _).1 gp2.out)⟩ (fun hHeld => ?_)
  clear hK K
  refine pure_ (i := 14) (N := some 5) (v := ?_) (a' := ?_) #[true, true, true, true, true, true, true, true, true, true, true, true, true, true, true] rfl rfl (by kernel_rfl) (fun _ _ _ h => h) (Or.inl ⟨by rfl, ?_⟩) ?_ ?_
  rotate_left
  · intro w'
    go_simp
    with_reducible rfl
  rotate_left
  · simp only [Act.put, List.setIfInBounds_toArray, List.set_cons_zero, List.set_cons_succ, i64_w, i32_w]
    rfl
  refine done_ (by kernel_rfl) ?_
  obtain ⟨p, hp⟩ : ∃ p, p = W1.heap.size := ⟨_, rfl⟩
  obtain ⟨W3, hW3⟩ : ∃ W, W = (W1.drew.alloc (.cells #[.int .i64 0, .int .i64 0, .int .i64 0, .int .i64 0] 140)).setCells W1.heap.size 0 (enc e) := ⟨_, rfl⟩
  rw [← hW3, ← hp]
  have PB3 : Hid (W3.heap[p]? = some (.cells (enc e).toArray 140 (0, 0))) := by
    show _ = _
    rw [hp, hW3]
    exact box_set (heap_alloc_new W1.drew _) rfl
  have E3 : Hid (Eff (fun _ => False) W1 W3) := by
    rw [hW3]
    exact ((Eff.refl _ W1).drew.alloc _).trans (eff_setCells W1.heap.size (enc e) 0 _).1 (fun k hk => .inr (by rw [hk]; exact Nat.le_refl _))
  have PP : Hid (w.heap.size < p) := by show _ < _; rw [hp, Z1.out]; exact Nat.lt_succ_self _
  have Q3 : Hid (IsQ 138 140 lessO B W3 g (.slice (some ⟨hb, 0, none⟩) es.length cap) mb es nx ck) := Q1.out.eff E3.out (fun _ _ h => h)
  have CS : Hid (Calls Try.prog 98 #[.pointer (some ⟨g, 0, none⟩), .int .i64 0, .int .i64 m] W3 fun e w' => e = .returned (.tuple #[]) ∧ IsQ 138 140 lessO B w' g (.slice (some ⟨hb, 0, none⟩) es.length cap) mb (swp es 0 m) nx ck ∧ Eff (fun k => some k = (Value.slice (some ⟨hb, 0, none⟩) es.length cap).ownBlock ∨ k = mb) W3 w') :=
    swap_O Q3.out 0 m e el HE0.out HEL.out hlen
  have RB3 : Hid (W3.heap[rb]? = some (.cells #[.int .i64 0, .int .i64 0] 124 (0, 0))) := E3.out.heap RB1.out (fun h => h)
  clear c1 r0 hp hW3 hwl hz
  go_wp2_with fail
  refine CS.out.mono ?_
  rintro r w4 ⟨rfl, hq4, he4⟩
  have nb4 : ∀ k, (some k = (Value.slice (some ⟨hb, 0, none⟩) es.length cap).ownBlock ∨ k = mb) → k < w.heap.size := by
    rintro k (h | h)
    · have : k = hb := by simpa [Value.ownBlock] using h
      rw [this]; exact bl.out
    · rw [h]
      obtain ⟨l, clk, hl, _⟩ := HQ.out.map
      exact (Array.getElem?_eq_some_iff.1 hl.1).1
  have Q4 := Lib.hid hq4
  have E4 := Lib.hid he4
  have PB4 : Hid (w4.heap[p]? = some (.cells (enc e).toArray 140 (0, 0))) := he4.heap PB3.out (fun h => by have h1 := nb4 p h; have h2 := PP.out; omega)
  have RB4 : Hid (w4.heap[rb]? = some (.cells #[.int .i64 0, .int .i64 0] 124 (0, 0))) := he4.heap RB3.out (fun h => by have h1 := nb4 rb h; have h2 := RX.out; omega)
  have d0 : w4.cell? ⟨g, 1, none⟩ = some (.slice (some ⟨hb, 0, none⟩) es.length cap) := blk_cell1 hq4.blk
  have f0 : w4.frozen? ⟨g, 1, none⟩ = false := frozen_blk hq4.blk 1
  have NB4 := Lib.hid nb4
  have hml : (m : Int) ≤ (es.length : Int) := by have := HM.out; omega
  clear hq4 he4 nb4
  go_wp2_with fail
  obtain ⟨W5, hW5⟩ : ∃ W, W = w4.setCell ⟨g, 1, none⟩ (.slice (some ⟨hb, 0, none⟩) m cap) := ⟨_, rfl⟩
  rw [← hW5]
  have G5 : Hid (W5.heap[g]? = some (.cells #[lessO, .slice (some ⟨hb, 0, none⟩) m cap, .map (some mb), .int .i64 nx, .int .i64 ck] 138 (0, 0))) := by
    show _ = _
    rw [hW5]
    exact set_cell Q4.out.blk 1 _
  have E5 : Hid (Eff (fun k => k = g) w4 W5) := by rw [hW5]; exact eff_setCell w4 g 1 _
  have ngb : ¬ hb = g := fun h => Row.ne Q4.out.row Q4.out.blk (by decide) (by rw [h]; rfl)
  have ngp : ¬ p = g := by have h1 := PP.out; have h2 := gl.out; omega
  have ngr : ¬ rb = g := by have h1 := RX.out; have h2 := gl.out; omega
  have nmg : ¬ mb = g := fun h => by
    obtain ⟨l, clk, hl, _⟩ := Q4.out.map
    have := Q4.out.blk
    rw [← h, hl.1] at this
    cases this
  have R5 : Hid (Row 140 B W5 (.slice (some ⟨hb, 0, none⟩) m cap) ((swp es 0 m).take m)) := by
    have h1 := Row.take Q4.out.row m (by rw [swp_length, HM.out]; omega) (by rw [swp_length, HM.out]; omega)
    exact h1.eff E5.out (fun k hk h => ngb (by have : hb = k := by simpa [Value.ownBlock] using hk
                                               omega))
  obtain ⟨l, clk, hml, hf⟩ := Q4.out.map.eff E5.out nmg
  have PB5 : Hid (W5.heap[p]? = some (.cells (enc e).toArray 140 (0, 0))) := E5.out.heap PB4.out ngp
  have RB5 : Hid (W5.heap[rb]? = some (.cells #[.int .i64 0, .int .i64 0] 124 (0, 0))) := E5.out.heap RB4.out ngr
  obtain ⟨w7, l7, hr7, he7, hz7, hm7, hf7⟩ := run_deleteL (P := Try.prog) (W := W5.drew) Try.underlying87 Try.underlying3 hml e.h #[87, 3] rfl 0
  have mlt : mb < w.heap.size := NB4.out mb (.inr rfl)
  have nmp : ¬ p = mb := by have h1 := PP.out; omega
  have nmr : ¬ rb = mb := by have h1 := RX.out; omega
  have nmb : ¬ hb = mb := fun h => Row.neM Q4.out.row Q4.out.map (by rw [h]; rfl)
  have G7 : Hid (w7.heap[g]? = some (.cells #[lessO, .slice (some ⟨hb, 0, none⟩) m cap, .map (some mb), .int .i64 nx, .int .i64 ck] 138 (0, 0))) := he7.heap (show W5.drew.heap[g]? = _ from G5.out) (fun h => nmg h.symm)
  have PB7 : Hid (w7.heap[p]? = some (.cells (enc e).toArray 140 (0, 0))) := he7.heap (show W5.drew.heap[p]? = _ from PB5.out) nmp
  have RB7 : Hid (w7.heap[rb]? = some (.cells #[.int .i64 0, .int .i64 0] 124 (0, 0))) := he7.heap (show W5.drew.heap[rb]? = _ from RB5.out) nmr
  have E57 : Hid (Eff (fun k => k = g ∨ k = mb) w4 w7) := (E5.out.drew.mono (fun k h => .inl (.inl h))).trans he7 (fun k h => .inl (.inr h))
  have Q7 : Hid (IsQ 138 140 lessO B w7 g (.slice (some ⟨hb, 0, none⟩) m cap) mb ((swp es 0 m).take m) nx ck) := by
    refine ⟨G7.out, HQ.out.gB, HQ.out.mB, ?_, ⟨l7, clk, hm7, fun k => ?_⟩, ?_⟩
    · exact Row.eff (W := W5.drew) R5.out he7 (fun k hk h => nmb (by have : hb = k := by simpa [Value.ownBlock] using hk
                                                                     omega))
    · rw [hf7 k, ← hf k]
      exact hidx_take (swp_nodup HQ.out.nd) (by rw [swp_length, HM.out]) (by rw [swp_get HE0.out HEL.out, if_pos rfl]) k
    · exact ((List.take_sublist m _).map _).nodup (swp_nodup HQ.out.nd)
  have HD7 : Hid (HeapD ((swp es 0 m).take m) 0) := heapD_take HH.out HM.out HE0.out HEL.out
  have d1 : W5.cell? ⟨g, 2, none⟩ = some (.map (some mb)) := by simp [World.cell?, G5.out]
  have d2 : W5.cell? ⟨p, 2, none⟩ = some (.int .i64 e.h) := box_cell PB5.out 2 _ rfl
  have CD : Hid (Calls Try.prog 99 #[.pointer (some ⟨g, 0, none⟩), .int .i64 0] w7 (DownPost 138 140 lessO B w7 g (.slice (some ⟨hb, 0, none⟩) m cap) mb ((swp es 0 m).take m) nx ck)) :=
    down_O Q7.out 0 HD7.out (by omega) (by rw [List.length_take, swp_length, HM.out]; omega)
  have HR7 := Lib.hid hr7
  clear hW5 ngb ngp ngr nmg hml hf he7 hz7 hm7 hf7 mlt nmp nmr nmb d0 f0 hr7
  refine start_ (n := 7) (S := fun w' => w'.cell? ⟨g, 2, none⟩ = some (.map (some mb)) ∧ w'.cell? ⟨p, 2, none⟩ = some (.int .i64 e.h)) (ds := [6]) #[false, false, false, false, false, false, false] (by kernel_rfl) rfl rfl ⟨d1, d2⟩ (fun hHeld => ?_)
  refine pure_ (i := 0) (N := some 39) (v := ?_) (a' := ?_) #[true, false, false, false, false, false, false] rfl rfl (by kernel_rfl) (fun _ _ _ h => h) (Or.inl ⟨by rfl, ?_⟩) ?_ ?_
  rotate_left
  · intro w'
    go_simp
    with_reducible rfl
  rotate_left
  · simp only [Act.put, List.setIfInBounds_toArray, List.set_cons_zero, List.set_cons_succ, i64_w, i32_w]
    rfl
  refine pure_ (i := 1) (N := some 40) (v := ?_) (a' := ?_) #[true, true, false, false, false, false, false] rfl rfl (by kernel_rfl) (fun _ _ _ h => h) (Or.inl ⟨by rfl, ?_⟩) ?_ ?_
  rotate_left
  · intro w'
    go_simp
    with_reducible rfl
  rotate_left
  · simp only [Act.put, List.setIfInBounds_toArray, List.set_cons_zero, List.set_cons_succ, i64_w, i32_w]
    rfl
  refine pure_ (i := 2) (N := some 41) (v := ?_) (a' := ?_) #[true, true, true, false, false, false, false] rfl rfl (by kernel_rfl) (fun _ _ _ h => h) (Or.inl ⟨by rfl, ?_⟩) ?_ ?_
  rotate_left
  · intro w'
    go_simp
    with_reducible rfl
  rotate_left
  · simp only [Act.put, List.setIfInBounds_toArray, List.set_cons_zero, List.set_cons_succ, i64_w, i32_w]
    rfl
  refine pure_ (i := 4) (N := some 43) (v := ?_) (a' := ?_) #[true, true, true, false, true, false, false] rfl rfl (by kernel_rfl) (fun _ _ _ h => h) (Or.inl ⟨by rfl, ?_⟩) ?_ ?_
  rotate_left
  · intro w'
    go_simp
    with_reducible rfl
  rotate_left
  · simp only [Act.put, List.setIfInBounds_toArray, List.set_cons_zero, List.set_cons_succ, i64_w, i32_w]
    rfl
  refine take_ (i := 3) (N := some 42) (v := ?_) (a' := ?_) #[true, true, true, true, true, false, false] rfl rfl (by kernel_rfl) (fun _ _ _ h => h) (Or.inl ⟨by rfl, ?_⟩) hHeld ?_ ?_
  rotate_left
  · rintro w' ⟨s0, s1⟩
    go_simp
    with_reducible rfl
  rotate_left
  · simp only [Act.put, List.setIfInBounds_toArray, List.set_cons_zero, List.set_cons_succ, i64_w, i32_w]
    rfl
  refine take_ (i := 5) (N := some 44) (v := ?_) (a' := ?_) #[true, true, true, true, true, true, false] rfl rfl (by kernel_rfl) (fun _ _ _ h => h) (Or.inl ⟨by rfl, ?_⟩) hHeld ?_ ?_
  rotate_left
  · rintro w' ⟨s0, s1⟩
    go_simp
    with_reducible rfl
  rotate_left
  · simp only [Act.put, List.setIfInBounds_toArray, List.set_cons_zero, List.set_cons_succ, i64_w, i32_w]
    rfl
  refine last_ (i := 6) (N := none) #[true, true, true, true, true, true, true] rfl rfl (by kernel_rfl) (by decide) (fun K hK => ?_)
  refine value_ (w1 := w7) (v := .tuple #[]) (by rfl) rfl (exec_delete rfl (by rfl) (by rfl) HR7.out) ?_
  refine hK.out _ _ ?_
  clear hK K
  refine done_ (by kernel_rfl) ?_
  clear hHeld d1 d2
  go_wp2_with fail
  refine CD.out.mono ?_
  rintro r w8 ⟨rfl, es', hq8, hp8, hh8, he8⟩
  have nb8 : ∀ k, (some k = (Value.slice (some ⟨hb, 0, none⟩) m cap).ownBlock ∨ k = mb) → k < w.heap.size := by
    rintro k (h | h)
    · have : k = hb := by simpa [Value.ownBlock] using h
      rw [this]; exact bl.out
    · exact NB4.out k (.inr h)
  have PB8 : Hid (w8.heap[p]? = some (.cells #[.int .i64 e.x.cost, .int .i64 e.x.node, .int .i64 e.h, .int .i64 e.t] 140 (0, 0))) := he8.heap PB7.out (fun h => by have h1 := nb8 p h; have h2 := PP.out; omega)
  have RB8 : Hid (w8.heap[rb]? = some (.cells #[.int .i64 0, .int .i64 0] 124 (0, 0))) := he8.heap RB7.out (fun h => by have h1 := nb8 rb h; have h2 := RX.out; omega)
  have H8 := Lib.hid (And.intro hq8 (And.intro hp8 hh8))
  have E8 := Lib.hid he8
  have y0 : w8.cell? ⟨p, 0, none⟩ = some (.int .i64 e.x.cost) := by simp [World.cell?, PB8.out]
  have y1 : w8.cell? ⟨p, 1, none⟩ = some (.int .i64 e.x.node) := by simp [World.cell?, PB8.out]
  have z0 : w8.cell? ⟨rb, 0, none⟩ = some (.int .i64 0) := by simp [World.cell?, RB8.out]
  have z1 : w8.cell? ⟨rb, 1, none⟩ = some (.int .i64 0) := by simp [World.cell?, RB8.out]
  have q0 : w8.frozen? ⟨rb, 0, none⟩ = false := frozen_blk RB8.out 0
  have q1 : w8.frozen? ⟨rb, 1, none⟩ = false := frozen_blk RB8.out 1
  clear hq8 hp8 hh8 he8 nb8
  go_wp2_with fail
  refine bodyPost_ret (res_ct rfl _ _ rb [.int .i64 e.x.cost, .int .i64 e.x.node] (by rfl) ?_ Try.underlying124 rfl (by kernel_rfl)) rfl ?_
  · refine box_range (L := [.int .i64 e.x.cost, .int .i64 e.x.node]) (t := 124) ?_ 0 _ (fun j v h => by rw [Nat.zero_add]; exact h)
    exact set_cell (set_cell (RB8.out) 0 _) 1 _
  · refine ⟨rfl, .slice (some ⟨hb, 0, none⟩) m cap, es', ?_, ?_, H8.out.2.2, ?_, rfl⟩
    · exact H8.out.1.eff (S := fun k => k = rb) (((Eff.refl (fun k => k = rb) w8).setCell (p := ⟨rb, 0, none⟩) (.inl rfl) _).setCell (p := ⟨rb, 1, none⟩) (.inl rfl) _) (fun k hk h => by
        have h1 := RX.out
        rcases hk with h2 | h2 | h2
        · have := gl.out; omega
        · have h3 : k = hb := by simpa [Value.ownBlock] using h2
          have := bl.out; omega
        · have := NB4.out k (.inr h2); omega)
    · exact (take_perm HM.out HE0.out HEL.out).trans (H8.out.2.1.symm.cons e)
    · have e1 : Eff (own g (.slice (some ⟨hb, 0, none⟩) es.length cap) mb) w W3 := (E1.out.trans E3.out (fun _ h => h.elim)).mono (fun _ h => h.elim)
      have e2 := (e1.trans E4.out (fun k h => .inl (h.elim (fun h => .inr (.inl h)) (fun h => .inr (.inr h))))).trans E57.out (fun k h => .inl (h.elim (fun h => .inl h) (fun h => .inr (.inr h))))
      have e3 := e2.trans E8.out (fun k h => .inl (h.elim (fun h => .inr (.inl h)) (fun h => .inr (.inr h))))
      exact e3.trans (T := fun k => k = rb) (((Eff.refl (fun k => k = rb) w8).setCell (p := ⟨rb, 0, none⟩) (.inl rfl) _).setCell (p := ⟨rb, 1, none⟩) (.inl rfl) _) (fun k h => .inr (by have h1 := RX.out; omega))
end Go.Proofs.Ytepfbhigeghjjaa.Q
namespace Go.Proofs.Ytepfbhigeghjjaa.Q
open Go.RowKit Go.Proofs.YtepfbhigeghjjaaW.PrintLast
set_option linter.unusedVariables false
set_option linter.unusedSimpArgs false

/-! ### New -/
set_option maxHeartbeats 1000000 in
theorem new_O {B : Nat} (w : World) (hB : B ≤ w.heap.size) : Calls Try.prog 90 #[lessO] w (NewPost (α := K.O2) 138 140 lessO B w) := by
  have hmm := @run_makeMap Try.prog
  have HB := Lib.hid hB
  clear hB
  show Calls Try.prog 90 #[.func (.func 91) #[] #[]] w _
  go_enter Try.func90, Try.ntmps90
  go_wp2
  go_ret
  have h1 := two_alloc w (.map #[] 0) (.cells #[.func (.func 91) #[] #[], .slice none 0 0, .map (some w.heap.size), .int .i64 0, .int .i64 0] 138)
  refine ⟨w.heap.size + 1, w.heap.size, rfl, ⟨h1.2, Nat.le_succ_of_le HB.out, HB.out, ⟨by simp [flat], .inl ⟨rfl, rfl⟩⟩, ⟨[], 0, ⟨h1.1, by simp, by simp, by simp⟩, fun k => rfl⟩, by simp⟩, ((Below.refl _ _).alloc (Nat.le_refl _) _).alloc (by simp) _, Nat.le_succ _, Nat.le_refl _⟩
end Go.Proofs.Ytepfbhigeghjjaa.Q
namespace Go.Proofs.Ytepfbhigeghjjaa.Q
open Go.RowKit Go.Proofs.YtepfbhigeghjjaaW.PrintLast
set_option linter.unusedVariables false
set_option linter.unusedSimpArgs false

theorem newA_O {B : Nat} (w : World) (hB : B ≤ w.heap.size) : Calls Try.prog 90 #[lessO] w (NewA (α := K.O2) 138 140 lessO B w) :=
  (new_O w hB).mono fun r w' ⟨g, mb, hr, hq, hb, _, _⟩ => ⟨g, hr, ⟨_, mb, [], hq, fun c _ hc => absurd hc (by simp), List.Perm.refl _⟩, hb⟩
theorem pushA_O {B : Nat} {w : World} {g : Nat} {S : List (En K.O2)} {nx ck : Int} (h : QA 138 140 lessO B w g S nx ck) (hnx : ∀ e ∈ S, e.h ≠ nx) (hn0 : 0 ≤ nx) (hn1 : nx ≤ 1000000000) (hc0 : 0 ≤ ck) (hc1 : ck ≤ 1000000000) (hlen : S.length < 1000000000) (x : K.O2) :
    Calls Try.prog 92 #[.pointer (some ⟨g, 0, none⟩), .agg #[.int .i64 x.cost, .int .i64 x.node]] w (PushA 138 140 lessO B w g S nx ck x) := by
  obtain ⟨hv, mb, es, hq, hh, hp⟩ := h
  refine (push_O hq hh (fun e he => hnx e (hp.subset he)) hn0 hn1 hc0 hc1 (by rw [hp.length_eq]; exact hlen) x).mono fun r w' ⟨hr, hv', es', hq', hp', hh', he', _⟩ => ?_
  exact ⟨hr, ⟨hv', mb, es', hq', hh', hp'.trans (List.perm_append_comm.trans (hp.cons _))⟩, hq.effT he'⟩
theorem popA_O {B : Nat} {w : World} {g : Nat} {S : List (En K.O2)} {nx ck : Int} (h : QA 138 140 lessO B w g S nx ck) (hne : S ≠ []) (hlen : S.length ≤ 1000000000) :
    Calls Try.prog 93 #[.pointer (some ⟨g, 0, none⟩)] w (PopA 138 140 lessO B w g S nx ck) := by
  obtain ⟨hv, mb, es, hq, hh, hp⟩ := h
  have hl : 0 < es.length := by rw [hp.length_eq]; exact List.length_pos_iff.2 hne
  refine (pop_O hq hh es[0] (List.getElem?_eq_getElem hl) (by rw [hp.length_eq]; exact hlen)).mono fun r w' ⟨hr, hv', es', hq', hp', hh', he', _⟩ => ?_
  exact ⟨es[0], es', hr, hp.symm.trans hp', heap_min hh (List.getElem?_eq_getElem hl) hp', ⟨hv', mb, es', hq', hh', List.Perm.refl _⟩, hq.effT he'⟩
theorem popNoneA_O {B : Nat} {w : World} {g : Nat} {nx ck : Int} (h : QA 138 140 lessO B w g ([] : List (En K.O2)) nx ck) :
    Calls Try.prog 93 #[.pointer (some ⟨g, 0, none⟩)] w (SameA 138 140 lessO B w g ([] : List (En K.O2)) nx ck (.tuple #[.agg #[.int .i64 0, .int .i64 0], .bool false])) := by
  have h0 := h
  obtain ⟨hv, mb, es, hq, hh, hp⟩ := h
  obtain rfl := hp.eq_nil
  exact (popNone_O hq).mono fun r w' ⟨hr, hb⟩ => ⟨hr, h0.eff hb, EffT.of_below hb⟩
end Go.Proofs.Ytepfbhigeghjjaa.Q
