/- The reference queue: Update. -/
import Derived.Test.YtepfbhigeghjjaaR28a
namespace Go.Proofs.Ytepfbhigeghjjaa.Q
open Go.RowKit Go.Proofs.YtepfbhigeghjjaaW.PrintLast
set_option linter.unusedVariables false
set_option linter.unusedSimpArgs false

def UpdR (B : Nat) (w : World) (m : Nat) (hv : Value) (es : List (En E28)) (nx ck h : Int) (x : E28) (r : Ending) (w' : World) : Prop :=
  (r = .returned (.bool false) ∧ (∀ e ∈ es, e.h ≠ h) ∧ Below w.heap.size w w') ∨ ∃ (n : Nat) (e : En E28), r = .returned (.bool true) ∧ es[n]? = some e ∧ e.h = h ∧ IsR B w' m hv (es.set n ⟨x, h, ck⟩) nx (ck + 1) ∧ Eff (fun k => k = m ∨ some k = hv.ownBlock) w w'
set_option maxHeartbeats 4000000 in
set_option maxRecDepth 100000 in
theorem upd_R {B : Nat} {w : World} {m : Nat} {hv : Value} {es : List (En E28)} {nx ck : Int} (hq : IsR B w m hv es nx ck) (hc0 : 0 ≤ ck) (hc1 : ck ≤ 1000000000) (hlen : es.length ≤ 1000000000) (h : Int) (x : E28) :
    Calls Try.prog 36 #[.pointer (some ⟨m, 0, none⟩), .int .i64 h, .agg #[.int .i64 x.key, .int .i64 x.id]] w (UpdR B w m hv es nx ck h x) := by
  obtain ⟨W1, hW1⟩ : ∃ W, W = w.alloc (.cells #[.int .i64 x.key, .int .i64 x.id] 27) := ⟨_, rfl⟩
  obtain ⟨bx, hbx⟩ : ∃ b, b = w.heap.size := ⟨_, rfl⟩
  have E1 : Hid (Eff (fun _ => False) w W1) := by rw [hW1]; exact eff_alloc w _
  have RB1 : Hid (W1.heap[bx]? = some (.cells #[.int .i64 x.key, .int .i64 x.id] 27 (0, 0))) := by show _ = _; rw [hbx, hW1]; exact heap_alloc_new w _
  have Q1 : Hid (IsR B W1 m hv es nx ck) := hq.eff E1.out (fun _ _ h => h)
  obtain ⟨A, cap0, hvA⟩ := Row.slice hq.row
  have HX := Lib.hid hbx
  have HW1 := Lib.hid hW1
  have HQ := Lib.hid hq
  have HV := Lib.hid hvA
  clear hq hbx hW1 hvA
  go_enter Try.func36, Try.ntmps36
  go_wp2_with fail
  rw [← HW1.out, ← HX.out]
  go_loopg [7] es.length (fun k si wr => ∃ i : Nat, si = .int .i64 i ∧ i ≤ es.length ∧ es.length - i ≤ k ∧ Hid ((∀ (j : Nat) e, j < i → es[j]? = some e → e.h ≠ h) ∧ Eff (fun _ => False) W1 wr))
  case atStart => exact ⟨0, rfl, by omega, by omega, ⟨fun j e hj => by omega, Eff.refl _ _⟩⟩
  case round =>
    obtain ⟨i, rfl, hi, hk, HR⟩ := hrel
    have Q := Q1.out.eff HR.out.2 (fun _ _ h => h)
    have c1 : wr.cell? ⟨m, 0, none⟩ = some (.slice A es.length cap0) := by rw [← HV.out]; simp [World.cell?, Q.blk]
    by_cases hlt : i < es.length
    · have hlz : (i : Int) < (es.length : Int) := by omega
      obtain ⟨rb, cap, cur, hv', _, _, _, _, _, _⟩ := Q.row.form (by omega)
      have hvv := HV.out.symm.trans hv'
      cases hvv
      obtain ⟨e, he⟩ : ∃ e, es[i]? = some e := ⟨_, List.getElem?_eq_getElem hlt⟩
      obtain ⟨eh, heh⟩ : ∃ v, e.h = v := ⟨_, rfl⟩
      subst hv'
      have y2 : wr.cell? ⟨rb, i * 4 + 2, none⟩ = some (.int .i64 eh) := by rw [← heh]; exact Q.row.range i e he 2 _ rfl
      have RD : Hid (Row 98 B wr.drew (.slice (some ⟨rb, 0, none⟩) es.length cap0) es) := Q.row
      have hj1 := hlz
      have GQ := Lib.hid Q
      have HE := Lib.hid he
      have HH := Lib.hid heh
      have C1 := Lib.hid c1
      clear Q he heh
      by_cases heq : eh = h
      · have hk2 : (eh == h) = true := beq_iff_eq.2 heq
        have HEQ := Lib.hid heq
        clear heq
        go_wp2_with fail
        have d0 := C1.out
        have d2 : wr.cell? ⟨m, 2, none⟩ = some (.int .i64 ck) := by simp [World.cell?, GQ.out.blk]
        have X1 : wr.rangeAt bx 0 [.int .i64 x.key, .int .i64 x.id] := box_range (L := [.int .i64 x.key, .int .i64 x.id]) (HR.out.2.heap RB1.out (fun h => h)) 0 _ (fun j v h => by rw [Nat.zero_add]; exact h)
        have hj1 : (i : Int) < (es.length : Int) := by omega
        clear c1 y2
        refine start_ (n := 14) (S := fun w' => w'.cell? ⟨m, 0, none⟩ = some (.slice (some ⟨rb, 0, none⟩) es.length cap0) ∧ w'.rangeAt bx 0 [.int .i64 x.key, .int .i64 x.id] ∧ w'.cell? ⟨m, 2, none⟩ = some (.int .i64 ck)) (ds := [13]) #[false, false, false, false, false, false, false, false, false, false, false, false, false, false] (by kernel_rfl) rfl rfl ⟨d0, X1, d2⟩ (fun hHeld => ?_)
        refine pure_ (i := 0) (N := some 27) (v := ?_) (a' := ?_) #[true, false, false, false, false, false, false, false, false, false, false, false, false, false] rfl rfl (by kernel_rfl) (fun _ _ _ h => h) (Or.inl ⟨by rfl, ?_⟩) ?_ ?_
        rotate_left
        · intro w'
          go_simp
          with_reducible rfl
        rotate_left
        · simp only [Act.put, List.setIfInBounds_toArray, List.set_cons_zero, List.set_cons_succ, i64_w, i32_w]
          rfl
        refine pure_ (i := 1) (N := some 28) (v := ?_) (a' := ?_) #[true, true, false, false, false, false, false, false, false, false, false, false, false, false] rfl rfl (by kernel_rfl) (fun _ _ _ h => h) (Or.inl ⟨by rfl, ?_⟩) ?_ ?_
        rotate_left
        · intro w'
          go_simp
          with_reducible rfl
        rotate_left
        · simp only [Act.put, List.setIfInBounds_toArray, List.set_cons_zero, List.set_cons_succ, i64_w, i32_w]
          rfl
        refine pure_ (i := 2) (N := some 29) (v := ?_) (a' := ?_) #[true, true, true, false, false, false, false, false, false, false, false, false, false, false] rfl rfl (by kernel_rfl) (fun _ _ _ h => h) (Or.inl ⟨by rfl, ?_⟩) ?_ ?_
        rotate_left
        · intro w'
          go_simp
          with_reducible rfl
        rotate_left
        · simp only [Act.put, List.setIfInBounds_toArray, List.set_cons_zero, List.set_cons_succ, i64_w, i32_w]
          rfl
        refine pure_ (i := 4) (N := some 31) (v := ?_) (a' := ?_) #[true, true, true, false, true, false, false, false, false, false, false, false, false, false] rfl rfl (by kernel_rfl) (fun _ _ _ h => h) (Or.inl ⟨by rfl, ?_⟩) ?_ ?_
        rotate_left
        · intro w'
          go_simp
          with_reducible rfl
        rotate_left
        · simp only [Act.put, List.setIfInBounds_toArray, List.set_cons_zero, List.set_cons_succ, i64_w, i32_w]
          rfl
        refine pure_ (i := 6) (N := some 33) (v := ?_) (a' := ?_) #[true, true, true, false, true, false, true, false, false, false, false, false, false, false] rfl rfl (by kernel_rfl) (fun _ _ _ h => h) (Or.inl ⟨by rfl, ?_⟩) ?_ ?_
        rotate_left
        · intro w'
          go_simp
          with_reducible rfl
        rotate_left
        · simp only [Act.put, List.setIfInBounds_toArray, List.set_cons_zero, List.set_cons_succ, i64_w, i32_w]
          rfl
        refine pure_ (i := 7) (N := some 34) (v := ?_) (a' := ?_) #[true, true, true, false, true, false, true, true, false, false, false, false, false, false] rfl rfl (by kernel_rfl) (fun _ _ _ h => h) (Or.inl ⟨by rfl, ?_⟩) ?_ ?_
        rotate_left
        · intro w'
          go_simp
          with_reducible rfl
        rotate_left
        · simp only [Act.put, List.setIfInBounds_toArray, List.set_cons_zero, List.set_cons_succ, i64_w, i32_w]
          rfl
        refine pure_ (i := 8) (N := some 35) (v := ?_) (a' := ?_) #[true, true, true, false, true, false, true, true, true, false, false, false, false, false] rfl rfl (by kernel_rfl) (fun _ _ _ h => h) (Or.inl ⟨by rfl, ?_⟩) ?_ ?_
        rotate_left
        · intro w'
          go_simp
          with_reducible rfl
        rotate_left
        · simp only [Act.put, List.setIfInBounds_toArray, List.set_cons_zero, List.set_cons_succ, i64_w, i32_w]
          rfl
        refine pure_ (i := 9) (N := some 36) (v := ?_) (a' := ?_) #[true, true, true, false, true, false, true, true, true, true, false, false, false, false] rfl rfl (by kernel_rfl) (fun _ _ _ h => h) (Or.inl ⟨by rfl, ?_⟩) ?_ ?_
        rotate_left
        · intro w'
          go_simp
          with_reducible rfl
        rotate_left
        · simp only [Act.put, List.setIfInBounds_toArray, List.set_cons_zero, List.set_cons_succ, i64_w, i32_w]
          rfl
        refine take_ (i := 3) (N := some 30) (v := ?_) (a' := ?_) #[true, true, true, true, true, false, true, true, true, true, false, false, false, false] rfl rfl (by kernel_rfl) (fun _ _ _ h => h) (Or.inl ⟨by rfl, ?_⟩) hHeld ?_ ?_
        rotate_left
        · rintro w' ⟨s0, s1, s2⟩
          go_simp
          with_reducible rfl
        rotate_left
        · simp only [Act.put, List.setIfInBounds_toArray, List.set_cons_zero, List.set_cons_succ, i64_w, i32_w]
          rfl
        refine take_ (i := 5) (N := some 32) (a' := ?_) #[true, true, true, true, true, true, true, true, true, true, false, false, false, false] rfl rfl (by kernel_rfl) (fun _ _ _ h => h) (yieldsIf_load_mid (by rfl) 27 _ rfl bx 0 (by rfl) [.int .i64 x.key, .int .i64 x.id] _ (fun w' h => h.2.1) Try.underlying27 rfl (by kernel_rfl)) hHeld ?_ ?_
        rotate_left
        · simp only [Act.put, List.setIfInBounds_toArray, List.set_cons_zero, List.set_cons_succ, i64_w, i32_w]
          rfl
        refine take_ (i := 10) (N := some 37) (v := ?_) (a' := ?_) #[true, true, true, true, true, true, true, true, true, true, true, false, false, false] rfl rfl (by kernel_rfl) (fun _ _ _ h => h) (Or.inl ⟨by rfl, ?_⟩) hHeld ?_ ?_
        rotate_left
        · rintro w' ⟨s0, s1, s2⟩
          go_simp
          with_reducible rfl
        rotate_left
        · simp only [Act.put, List.setIfInBounds_toArray, List.set_cons_zero, List.set_cons_succ, i64_w, i32_w]
          rfl
        refine pure_ (i := 11) (N := some 38) (v := ?_) (a' := ?_) #[true, true, true, true, true, true, true, true, true, true, true, true, false, false] rfl rfl (by kernel_rfl) (fun _ _ _ h => h) (Or.inl ⟨by rfl, ?_⟩) ?_ ?_
        rotate_left
        · intro w'
          go_simp
          with_reducible rfl
        rotate_left
        · simp only [Act.put, List.setIfInBounds_toArray, List.set_cons_zero, List.set_cons_succ, i64_w, i32_w]
          rfl
        refine pure_ (i := 12) (N := some 39) (v := ?_) (a' := ?_) #[true, true, true, true, true, true, true, true, true, true, true, true, true, false] rfl rfl (by kernel_rfl) (fun _ _ _ h => h) (Or.inl ⟨by rfl, ?_⟩) ?_ ?_
        rotate_left
        · intro w'
          go_simp
          with_reducible rfl
        rotate_left
        · simp only [Act.put, List.setIfInBounds_toArray, List.set_cons_zero, List.set_cons_succ, i64_w, i32_w]
          rfl
        refine last_ (i := 13) (N := none) #[true, true, true, true, true, true, true, true, true, true, true, true, true, true] rfl rfl (by kernel_rfl) (by decide) (fun K hK => ?_)
        refine skip_ (w1 := wr.drew.setCells rb (i * 4) (enc (⟨x, h, ck⟩ : En E28))) (by rfl) rfl (run_u (run_storeAt_mid _ rb (i * 4) 98 (enc (⟨x, h, ck⟩ : En E28)).toArray (RD.out.there i hlt) (by kernel_rfl) (enc_all (⟨x, h, ck⟩ : En E28)))) ?_
        refine hK.out _ _ ?_
        clear hK K
        refine done_ (by kernel_rfl) ?_
        obtain ⟨W5, hW5⟩ : ∃ W, W = wr.drew.setCells rb (i * 4) (enc (⟨x, h, ck⟩ : En E28)) := ⟨_, rfl⟩
        rw [← hW5]
        have nbm : ¬ rb = m := fun h => Row.ne GQ.out.row GQ.out.blk (by decide) (by rw [h]; rfl)
        have E5 : Hid (Eff (fun k => k = rb) wr.drew W5) := by rw [hW5]; exact (eff_setCells rb _ (i * 4) wr.drew).1
        have R5 : Hid (Row 98 B W5 (.slice (some ⟨rb, 0, none⟩) es.length cap0) (es.set i ⟨x, h, ck⟩)) := by rw [hW5]; exact RD.out.store i hlt _
        have G5 : Hid (W5.heap[m]? = some (.cells #[.slice (some ⟨rb, 0, none⟩) es.length cap0, .int .i64 nx, .int .i64 ck] 41 (0, 0))) := E5.out.heap (show wr.drew.heap[m]? = _ from GQ.out.blk) (fun h => nbm h.symm)
        have e2 : W5.cell? ⟨m, 2, none⟩ = some (.int .i64 ck) := by simp [World.cell?, G5.out]
        have f2 : W5.frozen? ⟨m, 2, none⟩ = false := frozen_blk G5.out 2
        have hwc : IntKind.i64.wrap (ck + 1) = ck + 1 := IntWalk.i64_in _ (by omega)
        have NB := Lib.hid nbm
        clear hW5 hHeld d0 d2 X1 nbm
        go_wp2_with fail
        go_ret
        refine .inr ⟨i, e, rfl, HE.out, by rw [HH.out, HEQ.out], ⟨set_cell G5.out 2 (.int .i64 (ck + 1)), HQ.out.mB, ?_⟩, ?_⟩
        · exact R5.out.eff (eff_setCell W5 m 2 _) (fun k hk h => NB.out ((show rb = k from by simpa [Value.ownBlock] using hk).trans h))
        · have h1 : Eff (fun k => k = m ∨ some k = (Value.slice (some ⟨rb, 0, none⟩) es.length cap0).ownBlock) w wr.drew := ((E1.out.trans HR.out.2 (fun _ h => h.elim)).drew).mono (fun _ h => h.elim)
          exact (h1.trans E5.out (fun k h => .inl (.inr (by rw [h]; rfl)))).trans (eff_setCell W5 m 2 _) (fun k h => .inl (.inl h))
      · have hk2 : (eh == h) = false := beq_eq_false_iff_ne.2 heq
        have HEQ := Lib.hid heq
        clear heq
        go_wp2_with fail
        go_roundg (es.length - (i + 1))
        case measure => omega
        case rel => exact ⟨i + 1, by go_num, by omega, by omega, ⟨fun j e' hj hj' => by
          by_cases hji : j = i
          · subst hji
            rw [HE.out] at hj'
            cases hj'
            rw [HH.out]
            exact HEQ.out
          · exact HR.out.1 j e' (by omega) hj', HR.out.2⟩⟩
    · have hlz : ¬ (i : Int) < (es.length : Int) := by omega
      obtain rfl : i = es.length := by omega
      clear Q
      go_wp2_with fail
      go_ret
      refine .inl ⟨rfl, fun e he => ?_, (E1.out.trans HR.out.2 (fun _ h => h.elim)).below (fun _ h => h.elim)⟩
      obtain ⟨j, hj⟩ := List.getElem?_of_mem he
      exact HR.out.1 j e (List.getElem?_eq_some_iff.1 hj).1 hj
end Go.Proofs.Ytepfbhigeghjjaa.Q
