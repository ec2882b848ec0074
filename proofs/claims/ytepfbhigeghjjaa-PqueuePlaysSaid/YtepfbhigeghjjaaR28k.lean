/- The reference queue: Peek. -/
import Derived.Test.YtepfbhigeghjjaaR28f
namespace Go.Proofs.Ytepfbhigeghjjaa.Q
open Go.RowKit Go.Proofs.YtepfbhigeghjjaaW.PrintLast
set_option linter.unusedVariables false
set_option linter.unusedSimpArgs false

def PeekR (B : Nat) (w : World) (m : Nat) (hv : Value) (es : List (En E28)) (nx ck : Int) (r : Ending) (w' : World) : Prop :=
  Below w.heap.size w w' ∧ ((es = [] ∧ r = .returned (.tuple #[.agg #[.int .i64 0, .int .i64 0], .bool false])) ∨ ∃ (n : Nat) (e : En E28), r = .returned (.tuple #[.agg #[.int .i64 e.x.key, .int .i64 e.x.id], .bool true]) ∧ es[n]? = some e ∧ ∀ x ∈ es, bef x e = false)
set_option maxHeartbeats 2000000 in
set_option maxRecDepth 100000 in
theorem peek_R {B : Nat} {w : World} {m : Nat} {hv : Value} {es : List (En E28)} {nx ck : Int} (hq : IsR B w m hv es nx ck) (hlen : es.length ≤ 1000000000) :
    Calls Try.prog 34 #[.pointer (some ⟨m, 0, none⟩)] w (PeekR B w m hv es nx ck) := by
  have hml := (Array.getElem?_eq_some_iff.1 hq.blk).1
  obtain ⟨W1, hW1⟩ : ∃ W, W = w.alloc (.cells #[.int .i64 0, .int .i64 0] 27) := ⟨_, rfl⟩
  obtain ⟨bx, hbx⟩ : ∃ b, b = w.heap.size := ⟨_, rfl⟩
  have E1 : Hid (Eff (fun _ => False) w W1) := by rw [hW1]; exact eff_alloc w _
  have RB1 : Hid (W1.heap[bx]? = some (.cells #[.int .i64 0, .int .i64 0] 27 (0, 0))) := by show _ = _; rw [hbx, hW1]; exact heap_alloc_new w _
  have Q1 : Hid (IsR B W1 m hv es nx ck) := hq.eff E1.out (fun _ _ h => h)
  have CF := Lib.hid (first_R Q1.out hlen)
  have HX := Lib.hid hbx
  have HW1 := Lib.hid hW1
  have HQ := Lib.hid hq
  clear hq hbx hW1
  clear hml
  go_enter Try.func34, Try.ntmps34
  go_wp2_with fail
  rw [← HW1.out, ← HX.out]
  with_reducible refine CF.out.mono ?_
  rintro r w2 ⟨i, rfl, hcase, hb⟩
  have RB2 : w2.heap[bx]? = some (.cells #[.int .i64 0, .int .i64 0] 27 (0, 0)) := below_heap hb RB1.out
  have B2 : Below w.heap.size w w2 := (E1.out.below (fun _ h => h.elim)).trans (hb.mono E1.out.size)
  have Q2 : IsR B w2 m hv es nx ck := Q1.out.eff (Eff.of_below hb (fun _ => False)) (fun _ _ h => h)
  have RB2' := Lib.hid RB2
  have B2' := Lib.hid B2
  have Q2' := Lib.hid Q2
  have x0 : w2.cell? ⟨bx, 0, none⟩ = some (.int .i64 0) := by simp [World.cell?, RB2]
  have x1 : w2.cell? ⟨bx, 1, none⟩ = some (.int .i64 0) := by simp [World.cell?, RB2]
  have x2 : w2.frozen? ⟨bx, 0, none⟩ = false := frozen_blk RB2 0
  have x3 : w2.frozen? ⟨bx, 1, none⟩ = false := frozen_blk RB2 1
  clear RB2 B2 Q2 hb CF
  rcases hcase with ⟨hnil, rfl⟩ | ⟨n, e, rfl, hn, hmin⟩
  · have HN := Lib.hid hnil
    clear hnil
    go_wp2_with fail
    refine bodyPost_ret (res_ct rfl _ _ bx [.int .i64 0, .int .i64 0] (by rfl) ?_ Try.underlying27 rfl (by kernel_rfl)) rfl ?_
    · refine box_range (L := [.int .i64 0, .int .i64 0]) (t := 27) ?_ 0 _ (fun j v h => by rw [Nat.zero_add]; exact h)
      exact set_cell (set_cell RB2'.out 0 _) 1 _
    · exact ⟨(B2'.out.setCell (p := ⟨bx, 0, none⟩) (by rw [HX.out]; exact Nat.le_refl _) _).setCell (p := ⟨bx, 1, none⟩) (by rw [HX.out]; exact Nat.le_refl _) _, .inl ⟨HN.out, rfl⟩⟩
  · have hnl : n < es.length := (List.getElem?_eq_some_iff.1 hn).1
    obtain ⟨rb, cap, cur, hv', _, _, _, _, _, _⟩ := Q2'.out.row.form (by omega)
    subst hv'
    have c1 : w2.cell? ⟨m, 0, none⟩ = some (.slice (some ⟨rb, 0, none⟩) es.length cap) := by simp [World.cell?, Q2'.out.blk]
    have y1 : w2.cell? ⟨rb, n * 4, none⟩ = some (.int .i64 e.x.key) := Q2'.out.row.range n e hn 0 _ rfl
    have y2 : w2.cell? ⟨rb, n * 4 + 1, none⟩ = some (.int .i64 e.x.id) := Q2'.out.row.range n e hn 1 _ rfl
    have hj1 : (n : Int) < (es.length : Int) := by omega
    have HN := Lib.hid (And.intro hn hmin)
    clear hn hmin
    go_wp2_with fail
    refine bodyPost_ret (res_ct rfl _ _ bx [.int .i64 e.x.key, .int .i64 e.x.id] (by rfl) ?_ Try.underlying27 rfl (by kernel_rfl)) rfl ?_
    · refine box_range (L := [.int .i64 e.x.key, .int .i64 e.x.id]) (t := 27) ?_ 0 _ (fun j v h => by rw [Nat.zero_add]; exact h)
      exact set_cell (set_cell RB2'.out 0 _) 1 _
    · exact ⟨(B2'.out.setCell (p := ⟨bx, 0, none⟩) (by rw [HX.out]; exact Nat.le_refl _) _).setCell (p := ⟨bx, 1, none⟩) (by rw [HX.out]; exact Nat.le_refl _) _, .inr ⟨n, e, rfl, HN.out⟩⟩
end Go.Proofs.Ytepfbhigeghjjaa.Q
