/- PqueuePlays: the walk. -/
import Derived.Test.YtepfbhigeghjjaaL28y
namespace Go.Proofs.Ytepfbhigeghjjaa.Q
open Go.RowKit Go.Proofs.YtepfbhigeghjjaaW.PrintLast
set_option linter.unusedVariables false
set_option linter.unusedSimpArgs false

theorem List.perm_cons_erase' {α : Type} {a : α} {l : List α} (h : a ∈ l) : ∃ R, l.Perm (a :: R) := by
  obtain ⟨s, t, rfl⟩ := List.append_of_mem h
  exact ⟨s ++ t, List.perm_middle⟩
set_option maxHeartbeats 8000000 in
set_option maxRecDepth 100000 in
theorem plays_walk (A : Option Addr) (ops : List Op4) (cap : Nat) (w : World) (hA : ∀ (j : Nat) o, ops[j]? = some o → ∃ ob oo, A = some ⟨ob, oo, none⟩ ∧ w.rangeAt ob (oo + j * 4) (encOp o)) :
    Calls Try.prog 5 #[.slice A ops.length cap] w fun r w' => r = .returned (.bool true) ∧ Below w.heap.size w w' := by
  have HA := Lib.hid hA
  clear hA
  go_enter Try.func5, Try.ntmps5
  go_wp2_with fail
  refine (newA_E (B := w.heap.size) w (Nat.le_refl _)).mono ?_
  rintro r w1 ⟨g, rfl, q1, b1⟩
  have HI : Hid (PlaysInv w (w1.alloc (.cells #[.slice none 0 0, .int .i64 0, .int .i64 0] 41)) g w1.heap.size 0 [] [] 0 0) :=
    ⟨q1.eff ((Below.refl _ _).alloc (Nat.le_refl _) _), ⟨_, ⟨heap_alloc_new w1 _, b1.size, ⟨rfl, .inl ⟨rfl, rfl⟩⟩⟩⟩, PI.start, b1.alloc b1.size _⟩
  obtain ⟨W2, hW2⟩ : ∃ W, W = w1.alloc (.cells #[.slice none 0 0, .int .i64 0, .int .i64 0] 41) := ⟨_, rfl⟩
  obtain ⟨m, hm⟩ : ∃ m, m = w1.heap.size := ⟨_, rfl⟩
  rw [← hW2, ← hm] at HI
  have HW := Lib.hid (And.intro hW2 hm)
  clear q1 b1 hW2 hm
  go_wp2_with fail
  rw [← HW.out.1, ← HW.out.2]
  go_loopg [5] 200 (fun k si wr => ∃ (i : Nat) (S es : List (En E28)) (nx ck : Int), si = .int .i64 i ∧ i ≤ ops.length ∧ i ≤ 200 ∧ 200 - i ≤ k ∧ Hid (PlaysInv w wr g m i S es nx ck))
  case atStart => exact ⟨0, [], [], 0, 0, rfl, by omega, by omega, by omega, HI⟩
  case round =>
    clear HI HW
    obtain ⟨i, S, es, nx, ck, rfl, hi, hi2, hk, HR⟩ := hrel
    by_cases hlt : i < ops.length ∧ i < 200
    · obtain ⟨hlt1, hlt2⟩ := hlt
      obtain ⟨o, ho⟩ : ∃ o, ops[i]? = some o := ⟨_, List.getElem?_eq_getElem hlt1⟩
      obtain ⟨ob, oo, rfl, hc⟩ := HA.out i o ho
      obtain ⟨kd, hkd⟩ : ∃ x, o.k = x := ⟨_, rfl⟩
      obtain ⟨hd, hhd⟩ : ∃ x, o.h = x := ⟨_, rfl⟩
      obtain ⟨k1, hk1⟩ : ∃ x, o.key = x := ⟨_, rfl⟩
      obtain ⟨k2, hk2⟩ : ∃ x, o.id = x := ⟨_, rfl⟩
      have hcl : w.rangeAt ob (oo + i * 4) [.int .i64 kd, .int .i64 hd, .int .i64 k1, .int .i64 k2] := by rw [← hkd, ← hhd, ← hk1, ← hk2]; exact hc
      have XR : Hid (∀ W, Below w.heap.size w W → W.rangeAt ob (oo + i * 4) [.int .i64 kd, .int .i64 hd, .int .i64 k1, .int .i64 k2]) := fun W hW => rangeAt_below hcl hW
      have XA : Hid (∀ W, Below w.heap.size w W → W.rangeAt ob (oo + i * 4 + 2) [.int .i64 k1, .int .i64 k2]) := fun W hW j v hv => by
        have := XR.out W hW (2 + j) v (by rw [Nat.add_comm]; exact hv)
        rwa [← Nat.add_assoc] at this
      have XH : Hid (∀ W, Below w.heap.size w W → W.cell? ⟨ob, oo + i * 4 + 1, none⟩ = some (.int .i64 hd)) := fun W hW => XR.out W hW 1 _ rfl
      have y0 : wr.cell? ⟨ob, oo + i * 4, none⟩ = some (.int .i64 kd) := XR.out wr HR.out.below 0 _ rfl
      obtain ⟨hv, RR0⟩ := HR.out.r
      have RR := Lib.hid RR0
      have hlz : (i : Int) < (ops.length : Int) := by omega
      have hlz2 : (i : Int) < 200 := by omega
      clear RR0 hcl hc hkd hhd hk1 hk2 ho
      by_cases h0 : kd = 0
      · have g0 : (kd == 0) = true := beq_iff_eq.2 h0
        clear h0
        as_aux_lemma =>
          have hp := HR.out.pi
          have hl0 := hp.p.length_eq
          have hp1 : 0 ≤ nx := hp.nx0
          have hp2 : nx ≤ 1000000000 := by have := hp.nx1; omega
          have hp3 : 0 ≤ ck := hp.ck0
          have hp4 : ck ≤ 1000000000 := by have := hp.ck1; omega
          have hp5 : es.length < 1000000000 := by have := hp.len; omega
          have CP := Lib.hid (pushA_E (w := wr.drew) HR.out.q.drew (fun e he h => by have := hp.hr e he; omega) hp1 hp2 hp3 hp4 (by have := hp.len; omega) ⟨k1, k2⟩)
          clear hp hl0
          go_wp2_with fail
          have hlz : (i : Int) < (ops.length : Int) := by omega
          refine start_ (n := 15) (S := fun w' => w'.rangeAt ob (oo + i * 4 + 2) [.int .i64 k1, .int .i64 k2]) (ds := []) #[false, false, false, false, false, false, false, false, false, false, false, false, false, false, false] (by kernel_rfl) rfl rfl (XA.out wr.drew HR.out.below.drew) (fun hHeld => ?_)
          refine pure_ (i := 0) (N := some 36) (v := ?_) (a' := ?_) #[true, false, false, false, false, false, false, false, false, false, false, false, false, false, false] rfl rfl (by kernel_rfl) (fun _ _ _ h => h) (Or.inl ⟨by rfl, ?_⟩) ?_ ?_
          rotate_left
          · intro w'
            go_simp
            with_reducible rfl
          rotate_left
          · simp only [Act.put, List.setIfInBounds_toArray, List.set_cons_zero, List.set_cons_succ, i64_w, i32_w]
            rfl
          refine pure_ (i := 1) (N := some 37) (v := ?_) (a' := ?_) #[true, true, false, false, false, false, false, false, false, false, false, false, false, false, false] rfl rfl (by kernel_rfl) (fun _ _ _ h => h) (Or.inl ⟨by rfl, ?_⟩) ?_ ?_
          rotate_left
          · intro w'
            go_simp
            with_reducible rfl
          rotate_left
          · simp only [Act.put, List.setIfInBounds_toArray, List.set_cons_zero, List.set_cons_succ, i64_w, i32_w]
            rfl
          refine pure_ (i := 2) (N := some 38) (v := ?_) (a' := ?_) #[true, true, true, false, false, false, false, false, false, false, false, false, false, false, false] rfl rfl (by kernel_rfl) (fun _ _ _ h => h) (Or.inl ⟨by rfl, ?_⟩) ?_ ?_
          rotate_left
          · intro w'
            go_simp
            with_reducible rfl
          rotate_left
          · simp only [Act.put, List.setIfInBounds_toArray, List.set_cons_zero, List.set_cons_succ, i64_w, i32_w]
            rfl
          refine pure_ (i := 3) (N := some 39) (v := ?_) (a' := ?_) #[true, true, true, true, false, false, false, false, false, false, false, false, false, false, false] rfl rfl (by kernel_rfl) (fun _ _ _ h => h) (Or.inl ⟨by rfl, ?_⟩) ?_ ?_
          rotate_left
          · intro w'
            go_simp
            with_reducible rfl
          rotate_left
          · simp only [Act.put, List.setIfInBounds_toArray, List.set_cons_zero, List.set_cons_succ, i64_w, i32_w]
            rfl
          refine pure_ (i := 4) (N := some 40) (v := ?_) (a' := ?_) #[true, true, true, true, true, false, false, false, false, false, false, false, false, false, false] rfl rfl (by kernel_rfl) (fun _ _ _ h => h) (Or.inl ⟨by rfl, ?_⟩) ?_ ?_
          rotate_left
          · intro w'
            go_simp
            with_reducible rfl
          rotate_left
          · simp only [Act.put, List.setIfInBounds_toArray, List.set_cons_zero, List.set_cons_succ, i64_w, i32_w]
            rfl
          refine pure_ (i := 7) (N := some 43) (v := ?_) (a' := ?_) #[true, true, true, true, true, false, false, true, false, false, false, false, false, false, false] rfl rfl (by kernel_rfl) (fun _ _ _ h => h) (Or.inl ⟨by rfl, ?_⟩) ?_ ?_
          rotate_left
          · intro w'
            go_simp
            with_reducible rfl
          rotate_left
          · simp only [Act.put, List.setIfInBounds_toArray, List.set_cons_zero, List.set_cons_succ, i64_w, i32_w]
            rfl
          refine pure_ (i := 8) (N := some 44) (v := ?_) (a' := ?_) #[true, true, true, true, true, false, false, true, true, false, false, false, false, false, false] rfl rfl (by kernel_rfl) (fun _ _ _ h => h) (Or.inl ⟨by rfl, ?_⟩) ?_ ?_
          rotate_left
          · intro w'
            go_simp
            with_reducible rfl
          rotate_left
          · simp only [Act.put, List.setIfInBounds_toArray, List.set_cons_zero, List.set_cons_succ, i64_w, i32_w]
            rfl
          refine pure_ (i := 9) (N := some 45) (v := ?_) (a' := ?_) #[true, true, true, true, true, false, false, true, true, true, false, false, false, false, false] rfl rfl (by kernel_rfl) (fun _ _ _ h => h) (Or.inl ⟨by rfl, ?_⟩) ?_ ?_
          rotate_left
          · intro w'
            go_simp
            with_reducible rfl
          rotate_left
          · simp only [Act.put, List.setIfInBounds_toArray, List.set_cons_zero, List.set_cons_succ, i64_w, i32_w]
            rfl
          refine pure_ (i := 10) (N := some 46) (v := ?_) (a' := ?_) #[true, true, true, true, true, false, false, true, true, true, true, false, false, false, false] rfl rfl (by kernel_rfl) (fun _ _ _ h => h) (Or.inl ⟨by rfl, ?_⟩) ?_ ?_
          rotate_left
          · intro w'
            go_simp
            with_reducible rfl
          rotate_left
          · simp only [Act.put, List.setIfInBounds_toArray, List.set_cons_zero, List.set_cons_succ, i64_w, i32_w]
            rfl
          refine pure_ (i := 11) (N := some 47) (v := ?_) (a' := ?_) #[true, true, true, true, true, false, false, true, true, true, true, true, false, false, false] rfl rfl (by kernel_rfl) (fun _ _ _ h => h) (Or.inl ⟨by rfl, ?_⟩) ?_ ?_
          rotate_left
          · intro w'
            go_simp
            with_reducible rfl
          rotate_left
          · simp only [Act.put, List.setIfInBounds_toArray, List.set_cons_zero, List.set_cons_succ, i64_w, i32_w]
            rfl
          refine take_ (i := 5) (N := some 41) (a' := ?_) #[true, true, true, true, true, true, false, true, true, true, true, true, false, false, false] rfl rfl (by kernel_rfl) (fun _ _ _ h => h) (yieldsIf_load_mid (by rfl) 27 _ rfl ob (oo + i * 4 + 2) (by rfl) [.int .i64 k1, .int .i64 k2] _ (fun w' h => h) Try.underlying27 rfl (by kernel_rfl)) hHeld ?_ ?_
          rotate_left
          · simp only [Act.put, List.setIfInBounds_toArray, List.set_cons_zero, List.set_cons_succ, i64_w, i32_w]
            rfl
          refine take_ (i := 12) (N := some 48) (a' := ?_) #[true, true, true, true, true, true, false, true, true, true, true, true, true, false, false] rfl rfl (by kernel_rfl) (fun _ _ _ h => h) (yieldsIf_load_mid (by rfl) 27 _ rfl ob (oo + i * 4 + 2) (by rfl) [.int .i64 k1, .int .i64 k2] _ (fun w' h => h) Try.underlying27 rfl (by kernel_rfl)) hHeld ?_ ?_
          rotate_left
          · simp only [Act.put, List.setIfInBounds_toArray, List.set_cons_zero, List.set_cons_succ, i64_w, i32_w]
            rfl
          refine one_ (i := 6) (N := some 42) #[true, true, true, true, true, true, true, true, true, true, true, true, true, false, false] rfl rfl (by kernel_rfl) (by decide) (fun K hK => ?_)
          refine goesV_ Try.func28 (by kernel_rfl) rfl #[.pointer (some ⟨g, 0, none⟩), .agg #[.int .i64 k1, .int .i64 k2]] (by rfl) rfl rfl (by rfl) (by simp only [List.map_toArray, List.map_cons, List.map_nil]; rfl) ?_
          with_reducible refine (CP.out).mono ?_
          rintro r w2 ⟨rfl, q2, e2⟩
          have BB2 := Lib.hid (HR.out.below.drew.trans (e2.below HR.out.below.size))
          have RR2 := Lib.hid ((RR.out.eff (Eff.refl (fun _ => False) wr).drew (fun _ _ h => h)).effT e2)
          have QQ2 := Lib.hid q2
          clear q2 e2
          refine ⟨_, rfl, ?_⟩
          refine hK.out _ _ (XA.out w2 BB2.out) (fun hHeld => ?_)
          clear hK K
          refine norm_ (a' := ?_) ?_ ?_
          rotate_left
          · show Act.put _ (some 42) _ = _
            simp only [Act.put, List.setIfInBounds_toArray, List.set_cons_zero, List.set_cons_succ, i64_w, i32_w]
            rfl
          refine one_ (i := 13) (N := some 49) #[true, true, true, true, true, true, true, true, true, true, true, true, true, true, false] rfl rfl (by kernel_rfl) (by decide) (fun K hK => ?_)
          refine goesV_ Try.func32 (by kernel_rfl) rfl #[.pointer (some ⟨m, 0, none⟩), .agg #[.int .i64 k1, .int .i64 k2]] (by rfl) rfl rfl (by rfl) (by simp only [List.map_toArray, List.map_cons, List.map_nil]; rfl) ?_
          with_reducible refine (push_R RR2.out hp1 hp2 hp3 hp4 hp5 ⟨k1, k2⟩).mono ?_
          rintro r w3 ⟨rfl, hv3, r3, e3⟩
          have BB3 := Lib.hid (RR2.out.base BB2.out BB2.out.size e3)
          have QQ3 := Lib.hid (QQ2.out.effR RR2.out e3)
          have RR3 := Lib.hid r3
          clear r3 e3
          refine ⟨_, rfl, ?_⟩
          refine hK.out _ _ (XA.out w3 BB3.out) (fun hHeld => ?_)
          clear hK K
          refine norm_ (a' := ?_) ?_ ?_
          rotate_left
          · show Act.put _ (some 49) _ = _
            simp only [Act.put, List.setIfInBounds_toArray, List.set_cons_zero, List.set_cons_succ, i64_w, i32_w]
            rfl
          refine pure_ (i := 14) (N := some 50) (v := ?_) (a' := ?_) #[true, true, true, true, true, true, true, true, true, true, true, true, true, true, true] rfl rfl (by kernel_rfl) (fun _ _ _ h => h) (Or.inl ⟨by rfl, ?_⟩) ?_ ?_
          rotate_left
          · intro w'
            go_simp
            with_reducible rfl
          rotate_left
          · simp only [Act.put, List.setIfInBounds_toArray, List.set_cons_zero, List.set_cons_succ, i64_w, i32_w]
            rfl
          refine done_ (by kernel_rfl) ?_
          have JJ : Hid (PlaysInv w w3 g m (i + 1) (⟨⟨k1, k2⟩, nx, ck⟩ :: S) (es ++ [⟨⟨k1, k2⟩, nx, ck⟩]) (nx + 1) (ck + 1)) := ⟨QQ3.out, ⟨_, RR3.out⟩, HR.out.pi.push _, BB3.out⟩
          clear CP hHeld RR2 QQ2 QQ3 RR3 hp1 hp2 hp3 hp4 hp5
          obtain ⟨ln, hln⟩ : ∃ x : Int, (((⟨⟨k1, k2⟩, nx, ck⟩ :: S)).length : Int) = x := ⟨_, rfl⟩
          have CL := Lib.hid (JJ.out.lenQ ln hln)
          have CM := Lib.hid (JJ.out.lenR ln hln)
          clear hln
          go_wp2_with fail
          with_reducible refine CL.out.mono ?_
          rintro r w8 ⟨rfl, rfl⟩
          go_wp2_with fail
          with_reducible refine CM.out.mono ?_
          rintro r w9 ⟨rfl, rfl⟩
          go_wp2_with fail
          go_roundg (200 - (i + 1))
          case measure => omega
          case rel => exact ⟨i + 1, (⟨⟨k1, k2⟩, nx, ck⟩ :: S), _, _, _, by go_num, by omega, by omega, by omega, JJ.out⟩

      have g0 : (kd == 0) = false := beq_eq_false_iff_ne.2 h0
      by_cases h1 : kd = 1
      · have g1 : (kd == 1) = true := beq_iff_eq.2 h1
        clear h0 h1
        by_cases hne : S ≠ []
        · skip
          as_aux_lemma =>
            have CP := Lib.hid (peekA_E HR.out.q hne)
            go_wp2_with fail
            with_reducible refine CP.out.mono ?_
            rintro r w2 ⟨m1, R1, rfl, hq1, hmin1, q2, e2⟩
            obtain ⟨a, ha⟩ : ∃ x, m1.x.key = x := ⟨_, rfl⟩
            obtain ⟨b, hb'⟩ : ∃ x, m1.x.id = x := ⟨_, rfl⟩
            have HC := Lib.hid (show (Cells.cs m1.x).toArray = #[.int .i64 a, .int .i64 b] from by rw [← ha, ← hb']; rfl)
            rw [HC.out]
            have HM := Lib.hid (And.intro hq1 (And.intro hmin1 (And.intro ha hb')))
            clear ha hb' hq1 hmin1
            obtain ⟨W3, hW3⟩ : ∃ W, W = w2.alloc (.cells #[.int .i64 a, .int .i64 b] 27) := ⟨_, rfl⟩
            obtain ⟨p3, hp3⟩ : ∃ p, p = w2.heap.size := ⟨_, rfl⟩
            have A3 : Below w2.heap.size w2 W3 := by rw [hW3]; exact (Below.refl _ _).alloc (Nat.le_refl _) _
            have P3 : W3.heap[p3]? = some (.cells #[.int .i64 a, .int .i64 b] 27 (0, 0)) := by rw [hW3, hp3]; exact heap_alloc_new w2 _
            have HW3 := Lib.hid (And.intro hW3 hp3)
            have QQ3 := Lib.hid (q2.eff A3)
            have RR3 := Lib.hid ((RR.out.effT e2).below A3)
            have BB3 := Lib.hid ((HR.out.below.trans (e2.below HR.out.below.size)).trans (A3.mono (Nat.le_trans HR.out.below.size e2.size)))
            have PP3 := Lib.hid P3
            clear hW3 hp3 A3 P3 q2 e2 CP
            have CP := Lib.hid (peek_R RR3.out (by have := HR.out.pi.p.length_eq; have := HR.out.pi.len; omega))
            go_wp2_with fail
            rw [← HW3.out.1, ← HW3.out.2]
            with_reducible refine CP.out.mono ?_
            rintro r w4 ⟨b4, ⟨hnil, _⟩ | ⟨n, e, rfl, hn, hmin⟩⟩
            · exact absurd (HR.out.pi.none.1 hnil) hne
            obtain rfl : e = m1 := HR.out.pi.min HM.out.1 HM.out.2.1 hn hmin
            rw [HM.out.2.2.1, HM.out.2.2.2]
            have HNN := Lib.hid hn
            clear hn hmin
            obtain ⟨W5, hW5⟩ : ∃ W, W = w4.alloc (.cells #[.int .i64 a, .int .i64 b] 27) := ⟨_, rfl⟩
            obtain ⟨p5, hp5⟩ : ∃ p, p = w4.heap.size := ⟨_, rfl⟩
            have A5 : Below w4.heap.size w4 W5 := by rw [hW5]; exact (Below.refl _ _).alloc (Nat.le_refl _) _
            have P5 : W5.heap[p5]? = some (.cells #[.int .i64 a, .int .i64 b] 27 (0, 0)) := by rw [hW5, hp5]; exact heap_alloc_new w4 _
            have HW5 := Lib.hid (And.intro hW5 hp5)
            have PP5 := Lib.hid (And.intro (below_heap A5 (below_heap b4 PP3.out)) P5)
            have QQ5 := Lib.hid ((QQ3.out.eff b4).eff A5)
            have RR5 := Lib.hid ((RR3.out.below b4).below A5)
            have BB5 := Lib.hid ((BB3.out.trans (b4.mono BB3.out.size)).trans (A5.mono (Nat.le_trans BB3.out.size b4.size)))
            clear b4
            have y1 : W5.cell? ⟨p3, 0, none⟩ = some (.int .i64 a) := by simp only [World.cell?, PP5.out.1]; rfl
            have y2 : W5.cell? ⟨p3, 1, none⟩ = some (.int .i64 b) := by simp only [World.cell?, PP5.out.1]; rfl
            have y3 : W5.cell? ⟨p5, 0, none⟩ = some (.int .i64 a) := by simp only [World.cell?, PP5.out.2]; rfl
            have y4 : W5.cell? ⟨p5, 1, none⟩ = some (.int .i64 b) := by simp only [World.cell?, PP5.out.2]; rfl
            have JJ : Hid (PlaysInv w W5 g m (i + 1) S es nx ck) := ⟨QQ5.out, ⟨_, RR5.out⟩, HR.out.pi.next, BB5.out⟩
            rw [hp5] at y3 y4
            rw [hW5] at y1 y2 y3 y4
            clear CP hW5 hp5 A5 P5 PP3 QQ3 RR3 BB3 PP5 QQ5 RR5 BB5 HW3
            go_wp2_with fail
            rw [← HW5.out.1]
            obtain ⟨ln, hln⟩ : ∃ x : Int, ((S).length : Int) = x := ⟨_, rfl⟩
            have CL := Lib.hid (JJ.out.lenQ ln hln)
            have CM := Lib.hid (JJ.out.lenR ln hln)
            clear hln
            go_wp2_with fail
            with_reducible refine CL.out.mono ?_
            rintro r w8 ⟨rfl, rfl⟩
            go_wp2_with fail
            with_reducible refine CM.out.mono ?_
            rintro r w9 ⟨rfl, rfl⟩
            go_wp2_with fail
            go_roundg (200 - (i + 1))
            case measure => omega
            case rel => exact ⟨i + 1, S, _, _, _, by go_num, by omega, by omega, by omega, JJ.out⟩

        · have HN : Hid (S = []) := Classical.not_not.1 hne
          clear hne
          as_aux_lemma =>
            have CP := Lib.hid (peekNoneA_E (HN.out ▸ HR.out.q))
            go_wp2_with fail
            with_reducible refine CP.out.mono ?_
            rintro r w2 ⟨rfl, q2, e2⟩
            obtain ⟨W3, hW3⟩ : ∃ W, W = w2.alloc (.cells #[.int .i64 0, .int .i64 0] 27) := ⟨_, rfl⟩
            obtain ⟨p3, hp3⟩ : ∃ p, p = w2.heap.size := ⟨_, rfl⟩
            have A3 : Below w2.heap.size w2 W3 := by rw [hW3]; exact (Below.refl _ _).alloc (Nat.le_refl _) _
            have P3 : W3.heap[p3]? = some (.cells #[.int .i64 0, .int .i64 0] 27 (0, 0)) := by rw [hW3, hp3]; exact heap_alloc_new w2 _
            have HW3 := Lib.hid (And.intro hW3 hp3)
            have QQ3 := Lib.hid (q2.eff A3)
            have RR3 := Lib.hid ((RR.out.effT e2).below A3)
            have BB3 := Lib.hid ((HR.out.below.trans (e2.below HR.out.below.size)).trans (A3.mono (Nat.le_trans HR.out.below.size e2.size)))
            have PP3 := Lib.hid P3
            clear hW3 hp3 A3 P3 q2 e2 CP
            have CP := Lib.hid (peek_R RR3.out (by have := HR.out.pi.p.length_eq; have := HR.out.pi.len; omega))
            go_wp2_with fail
            rw [← HW3.out.1, ← HW3.out.2]
            with_reducible refine CP.out.mono ?_
            rintro r w4 ⟨b4, ⟨_, rfl⟩ | ⟨n, e, rfl, hn, _⟩⟩
            rotate_left
            · rw [HR.out.pi.none.2 HN.out] at hn
              simp at hn
            obtain ⟨W5, hW5⟩ : ∃ W, W = w4.alloc (.cells #[.int .i64 0, .int .i64 0] 27) := ⟨_, rfl⟩
            obtain ⟨p5, hp5⟩ : ∃ p, p = w4.heap.size := ⟨_, rfl⟩
            have A5 : Below w4.heap.size w4 W5 := by rw [hW5]; exact (Below.refl _ _).alloc (Nat.le_refl _) _
            have P5 : W5.heap[p5]? = some (.cells #[.int .i64 0, .int .i64 0] 27 (0, 0)) := by rw [hW5, hp5]; exact heap_alloc_new w4 _
            have HW5 := Lib.hid (And.intro hW5 hp5)
            have PP5 := Lib.hid (And.intro (below_heap A5 (below_heap b4 PP3.out)) P5)
            have QQ5 := Lib.hid ((QQ3.out.eff b4).eff A5)
            have RR5 := Lib.hid ((RR3.out.below b4).below A5)
            have BB5 := Lib.hid ((BB3.out.trans (b4.mono BB3.out.size)).trans (A5.mono (Nat.le_trans BB3.out.size b4.size)))
            clear b4
            have y1 : W5.cell? ⟨p3, 0, none⟩ = some (.int .i64 0) := by simp only [World.cell?, PP5.out.1]; rfl
            have y2 : W5.cell? ⟨p3, 1, none⟩ = some (.int .i64 0) := by simp only [World.cell?, PP5.out.1]; rfl
            have y3 : W5.cell? ⟨p5, 0, none⟩ = some (.int .i64 0) := by simp only [World.cell?, PP5.out.2]; rfl
            have y4 : W5.cell? ⟨p5, 1, none⟩ = some (.int .i64 0) := by simp only [World.cell?, PP5.out.2]; rfl
            have JJ : Hid (PlaysInv w W5 g m (i + 1) S es nx ck) := ⟨(by rw [HN.out]; exact QQ5.out), ⟨_, RR5.out⟩, HR.out.pi.next, BB5.out⟩
            rw [hp5] at y3 y4
            rw [hW5] at y1 y2 y3 y4
            clear CP hW5 hp5 A5 P5 PP3 QQ3 RR3 BB3 PP5 QQ5 RR5 BB5 HW3
            go_wp2_with fail
            rw [← HW5.out.1]
            obtain ⟨ln, hln⟩ : ∃ x : Int, ((S).length : Int) = x := ⟨_, rfl⟩
            have CL := Lib.hid (JJ.out.lenQ ln hln)
            have CM := Lib.hid (JJ.out.lenR ln hln)
            clear hln
            go_wp2_with fail
            with_reducible refine CL.out.mono ?_
            rintro r w8 ⟨rfl, rfl⟩
            go_wp2_with fail
            with_reducible refine CM.out.mono ?_
            rintro r w9 ⟨rfl, rfl⟩
            go_wp2_with fail
            go_roundg (200 - (i + 1))
            case measure => omega
            case rel => exact ⟨i + 1, S, _, _, _, by go_num, by omega, by omega, by omega, JJ.out⟩

      have g1 : (kd == 1) = false := beq_eq_false_iff_ne.2 h1
      by_cases h2 : kd = 2
      · have g2 : (kd == 2) = true := beq_iff_eq.2 h2
        clear h0 h1 h2
        by_cases hne : S ≠ []
        · skip
          as_aux_lemma =>
            have CP := Lib.hid (popA_E HR.out.q hne (by have := HR.out.pi.len; omega))
            go_wp2_with fail
            with_reducible refine CP.out.mono ?_
            rintro r w2 ⟨m1, R1, rfl, hq1, hmin1, q2, e2⟩
            obtain ⟨a, ha⟩ : ∃ x, m1.x.key = x := ⟨_, rfl⟩
            obtain ⟨b, hb'⟩ : ∃ x, m1.x.id = x := ⟨_, rfl⟩
            have HC := Lib.hid (show (Cells.cs m1.x).toArray = #[.int .i64 a, .int .i64 b] from by rw [← ha, ← hb']; rfl)
            rw [HC.out]
            have HM := Lib.hid (And.intro hq1 (And.intro hmin1 (And.intro ha hb')))
            clear ha hb' hq1 hmin1
            obtain ⟨W3, hW3⟩ : ∃ W, W = w2.alloc (.cells #[.int .i64 a, .int .i64 b] 27) := ⟨_, rfl⟩
            obtain ⟨p3, hp3⟩ : ∃ p, p = w2.heap.size := ⟨_, rfl⟩
            have A3 : Below w2.heap.size w2 W3 := by rw [hW3]; exact (Below.refl _ _).alloc (Nat.le_refl _) _
            have P3 : W3.heap[p3]? = some (.cells #[.int .i64 a, .int .i64 b] 27 (0, 0)) := by rw [hW3, hp3]; exact heap_alloc_new w2 _
            have HW3 := Lib.hid (And.intro hW3 hp3)
            have QQ3 := Lib.hid (q2.eff A3)
            have RR3 := Lib.hid ((RR.out.effT e2).below A3)
            have BB3 := Lib.hid ((HR.out.below.trans (e2.below HR.out.below.size)).trans (A3.mono (Nat.le_trans HR.out.below.size e2.size)))
            have PP3 := Lib.hid P3
            clear hW3 hp3 A3 P3 q2 e2 CP
            have CP := Lib.hid (pop_R RR3.out (by have := HR.out.pi.p.length_eq; have := HR.out.pi.len; omega))
            go_wp2_with fail
            rw [← HW3.out.1, ← HW3.out.2]
            with_reducible refine CP.out.mono ?_
            rintro r w4 (⟨hnil, _⟩ | ⟨n, e, hv4, rfl, hn, hmin, r4, e4⟩)
            · exact absurd (HR.out.pi.none.1 hnil) hne
            obtain rfl : e = m1 := HR.out.pi.min HM.out.1 HM.out.2.1 hn hmin
            rw [HM.out.2.2.1, HM.out.2.2.2]
            have HNN := Lib.hid hn
            clear hn hmin
            obtain ⟨W5, hW5⟩ : ∃ W, W = w4.alloc (.cells #[.int .i64 a, .int .i64 b] 27) := ⟨_, rfl⟩
            obtain ⟨p5, hp5⟩ : ∃ p, p = w4.heap.size := ⟨_, rfl⟩
            have A5 : Below w4.heap.size w4 W5 := by rw [hW5]; exact (Below.refl _ _).alloc (Nat.le_refl _) _
            have P5 : W5.heap[p5]? = some (.cells #[.int .i64 a, .int .i64 b] 27 (0, 0)) := by rw [hW5, hp5]; exact heap_alloc_new w4 _
            have HW5 := Lib.hid (And.intro hW5 hp5)
            have PP5 := Lib.hid (And.intro (below_heap A5 (RR3.out.keep e4 PP3.out (by decide) (by decide))) P5)
            have BB4 := RR3.out.base BB3.out BB3.out.size e4
            have QQ5 := Lib.hid ((QQ3.out.effR RR3.out e4).eff A5)
            have RR5 := Lib.hid (r4.below A5)
            have BB5 := Lib.hid (BB4.trans (A5.mono BB4.size))
            clear r4 e4 BB4
            have y1 : W5.cell? ⟨p3, 0, none⟩ = some (.int .i64 a) := by simp only [World.cell?, PP5.out.1]; rfl
            have y2 : W5.cell? ⟨p3, 1, none⟩ = some (.int .i64 b) := by simp only [World.cell?, PP5.out.1]; rfl
            have y3 : W5.cell? ⟨p5, 0, none⟩ = some (.int .i64 a) := by simp only [World.cell?, PP5.out.2]; rfl
            have y4 : W5.cell? ⟨p5, 1, none⟩ = some (.int .i64 b) := by simp only [World.cell?, PP5.out.2]; rfl
            have JJ : Hid (PlaysInv w W5 g m (i + 1) R1 (es.eraseIdx n) nx ck) := ⟨QQ5.out, ⟨_, RR5.out⟩, (HR.out.pi.pop HM.out.1 HNN.out), BB5.out⟩
            rw [hp5] at y3 y4
            rw [hW5] at y1 y2 y3 y4
            clear CP hW5 hp5 A5 P5 PP3 QQ3 RR3 BB3 PP5 QQ5 RR5 BB5 HW3
            go_wp2_with fail
            rw [← HW5.out.1]
            obtain ⟨ln, hln⟩ : ∃ x : Int, ((R1).length : Int) = x := ⟨_, rfl⟩
            have CL := Lib.hid (JJ.out.lenQ ln hln)
            have CM := Lib.hid (JJ.out.lenR ln hln)
            clear hln
            go_wp2_with fail
            with_reducible refine CL.out.mono ?_
            rintro r w8 ⟨rfl, rfl⟩
            go_wp2_with fail
            with_reducible refine CM.out.mono ?_
            rintro r w9 ⟨rfl, rfl⟩
            go_wp2_with fail
            go_roundg (200 - (i + 1))
            case measure => omega
            case rel => exact ⟨i + 1, R1, _, _, _, by go_num, by omega, by omega, by omega, JJ.out⟩

        · have HN : Hid (S = []) := Classical.not_not.1 hne
          clear hne
          as_aux_lemma =>
            have CP := Lib.hid (popNoneA_E (HN.out ▸ HR.out.q))
            go_wp2_with fail
            with_reducible refine CP.out.mono ?_
            rintro r w2 ⟨rfl, q2, e2⟩
            obtain ⟨W3, hW3⟩ : ∃ W, W = w2.alloc (.cells #[.int .i64 0, .int .i64 0] 27) := ⟨_, rfl⟩
            obtain ⟨p3, hp3⟩ : ∃ p, p = w2.heap.size := ⟨_, rfl⟩
            have A3 : Below w2.heap.size w2 W3 := by rw [hW3]; exact (Below.refl _ _).alloc (Nat.le_refl _) _
            have P3 : W3.heap[p3]? = some (.cells #[.int .i64 0, .int .i64 0] 27 (0, 0)) := by rw [hW3, hp3]; exact heap_alloc_new w2 _
            have HW3 := Lib.hid (And.intro hW3 hp3)
            have QQ3 := Lib.hid (q2.eff A3)
            have RR3 := Lib.hid ((RR.out.effT e2).below A3)
            have BB3 := Lib.hid ((HR.out.below.trans (e2.below HR.out.below.size)).trans (A3.mono (Nat.le_trans HR.out.below.size e2.size)))
            have PP3 := Lib.hid P3
            clear hW3 hp3 A3 P3 q2 e2 CP
            have CP := Lib.hid (pop_R RR3.out (by have := HR.out.pi.p.length_eq; have := HR.out.pi.len; omega))
            go_wp2_with fail
            rw [← HW3.out.1, ← HW3.out.2]
            with_reducible refine CP.out.mono ?_
            rintro r w4 (⟨_, rfl, b4⟩ | ⟨n, e, hv4, rfl, hn, _⟩)
            rotate_left
            · rw [HR.out.pi.none.2 HN.out] at hn
              simp at hn
            obtain ⟨W5, hW5⟩ : ∃ W, W = w4.alloc (.cells #[.int .i64 0, .int .i64 0] 27) := ⟨_, rfl⟩
            obtain ⟨p5, hp5⟩ : ∃ p, p = w4.heap.size := ⟨_, rfl⟩
            have A5 : Below w4.heap.size w4 W5 := by rw [hW5]; exact (Below.refl _ _).alloc (Nat.le_refl _) _
            have P5 : W5.heap[p5]? = some (.cells #[.int .i64 0, .int .i64 0] 27 (0, 0)) := by rw [hW5, hp5]; exact heap_alloc_new w4 _
            have HW5 := Lib.hid (And.intro hW5 hp5)
            have PP5 := Lib.hid (And.intro (below_heap A5 (below_heap b4 PP3.out)) P5)
            have QQ5 := Lib.hid ((QQ3.out.eff b4).eff A5)
            have RR5 := Lib.hid ((RR3.out.below b4).below A5)
            have BB5 := Lib.hid ((BB3.out.trans (b4.mono BB3.out.size)).trans (A5.mono (Nat.le_trans BB3.out.size b4.size)))
            clear b4
            have y1 : W5.cell? ⟨p3, 0, none⟩ = some (.int .i64 0) := by simp only [World.cell?, PP5.out.1]; rfl
            have y2 : W5.cell? ⟨p3, 1, none⟩ = some (.int .i64 0) := by simp only [World.cell?, PP5.out.1]; rfl
            have y3 : W5.cell? ⟨p5, 0, none⟩ = some (.int .i64 0) := by simp only [World.cell?, PP5.out.2]; rfl
            have y4 : W5.cell? ⟨p5, 1, none⟩ = some (.int .i64 0) := by simp only [World.cell?, PP5.out.2]; rfl
            have JJ : Hid (PlaysInv w W5 g m (i + 1) S es nx ck) := ⟨(by rw [HN.out]; exact QQ5.out), ⟨_, RR5.out⟩, HR.out.pi.next, BB5.out⟩
            rw [hp5] at y3 y4
            rw [hW5] at y1 y2 y3 y4
            clear CP hW5 hp5 A5 P5 PP3 QQ3 RR3 BB3 PP5 QQ5 RR5 BB5 HW3
            go_wp2_with fail
            rw [← HW5.out.1]
            obtain ⟨ln, hln⟩ : ∃ x : Int, ((S).length : Int) = x := ⟨_, rfl⟩
            have CL := Lib.hid (JJ.out.lenQ ln hln)
            have CM := Lib.hid (JJ.out.lenR ln hln)
            clear hln
            go_wp2_with fail
            with_reducible refine CL.out.mono ?_
            rintro r w8 ⟨rfl, rfl⟩
            go_wp2_with fail
            with_reducible refine CM.out.mono ?_
            rintro r w9 ⟨rfl, rfl⟩
            go_wp2_with fail
            go_roundg (200 - (i + 1))
            case measure => omega
            case rel => exact ⟨i + 1, S, _, _, _, by go_num, by omega, by omega, by omega, JJ.out⟩

      have g2 : (kd == 2) = false := beq_eq_false_iff_ne.2 h2
      by_cases h3 : kd = 3
      · have g3 : (kd == 3) = true := beq_iff_eq.2 h3
        clear h0 h1 h2 h3
        by_cases hex : ∃ e ∈ S, e.h = hd
        · skip
          as_aux_lemma =>
            have hp := HR.out.pi
            have hl0 := hp.p.length_eq
            have hp3 : 0 ≤ ck := hp.ck0
            have hp4 : ck ≤ 1000000000 := by have := hp.ck1; omega
            have hp5 : es.length ≤ 1000000000 := by have := hp.len; omega
            have hp6 : S.length ≤ 1000000000 := by have := hp.len; omega
            clear hp hl0
            obtain ⟨e0, he0, hh0⟩ := hex
            obtain ⟨R, hR⟩ := List.perm_cons_erase' he0
            have HEX := Lib.hid (And.intro hh0 hR)
            have CP := Lib.hid (updA_E (w := wr.drew) HR.out.q.drew e0 HEX.out.2 hd HEX.out.1 hp3 hp4 hp6 ⟨k1, k2⟩)
            clear he0 hh0 hR
            go_wp2_with fail
            have hlz : (i : Int) < (ops.length : Int) := by omega
            refine start_ (n := 25) (S := fun w' => w'.cell? ⟨ob, oo + i * 4 + 1, none⟩ = some (.int .i64 hd) ∧ w'.rangeAt ob (oo + i * 4 + 2) [.int .i64 k1, .int .i64 k2]) (ds := []) #[false, false, false, false, false, false, false, false, false, false, false, false, false, false, false, false, false, false, false, false, false, false, false, false, false] (by kernel_rfl) rfl rfl ⟨(XH.out wr.drew HR.out.below.drew), (XA.out wr.drew HR.out.below.drew)⟩ (fun hHeld => ?_)
            refine pure_ (i := 0) (N := some 93) (v := ?_) (a' := ?_) #[true, false, false, false, false, false, false, false, false, false, false, false, false, false, false, false, false, false, false, false, false, false, false, false, false] rfl rfl (by kernel_rfl) (fun _ _ _ h => h) (Or.inl ⟨by rfl, ?_⟩) ?_ ?_
            rotate_left
            · intro w'
              go_simp
              with_reducible rfl
            rotate_left
            · simp only [Act.put, List.setIfInBounds_toArray, List.set_cons_zero, List.set_cons_succ, i64_w, i32_w]
              rfl
            refine pure_ (i := 1) (N := some 94) (v := ?_) (a' := ?_) #[true, true, false, false, false, false, false, false, false, false, false, false, false, false, false, false, false, false, false, false, false, false, false, false, false] rfl rfl (by kernel_rfl) (fun _ _ _ h => h) (Or.inl ⟨by rfl, ?_⟩) ?_ ?_
            rotate_left
            · intro w'
              go_simp
              with_reducible rfl
            rotate_left
            · simp only [Act.put, List.setIfInBounds_toArray, List.set_cons_zero, List.set_cons_succ, i64_w, i32_w]
              rfl
            refine pure_ (i := 2) (N := some 95) (v := ?_) (a' := ?_) #[true, true, true, false, false, false, false, false, false, false, false, false, false, false, false, false, false, false, false, false, false, false, false, false, false] rfl rfl (by kernel_rfl) (fun _ _ _ h => h) (Or.inl ⟨by rfl, ?_⟩) ?_ ?_
            rotate_left
            · intro w'
              go_simp
              with_reducible rfl
            rotate_left
            · simp only [Act.put, List.setIfInBounds_toArray, List.set_cons_zero, List.set_cons_succ, i64_w, i32_w]
              rfl
            refine pure_ (i := 3) (N := some 96) (v := ?_) (a' := ?_) #[true, true, true, true, false, false, false, false, false, false, false, false, false, false, false, false, false, false, false, false, false, false, false, false, false] rfl rfl (by kernel_rfl) (fun _ _ _ h => h) (Or.inl ⟨by rfl, ?_⟩) ?_ ?_
            rotate_left
            · intro w'
              go_simp
              with_reducible rfl
            rotate_left
            · simp only [Act.put, List.setIfInBounds_toArray, List.set_cons_zero, List.set_cons_succ, i64_w, i32_w]
              rfl
            refine pure_ (i := 4) (N := some 97) (v := ?_) (a' := ?_) #[true, true, true, true, true, false, false, false, false, false, false, false, false, false, false, false, false, false, false, false, false, false, false, false, false] rfl rfl (by kernel_rfl) (fun _ _ _ h => h) (Or.inl ⟨by rfl, ?_⟩) ?_ ?_
            rotate_left
            · intro w'
              go_simp
              with_reducible rfl
            rotate_left
            · simp only [Act.put, List.setIfInBounds_toArray, List.set_cons_zero, List.set_cons_succ, i64_w, i32_w]
              rfl
            refine pure_ (i := 6) (N := some 99) (v := ?_) (a' := ?_) #[true, true, true, true, true, false, true, false, false, false, false, false, false, false, false, false, false, false, false, false, false, false, false, false, false] rfl rfl (by kernel_rfl) (fun _ _ _ h => h) (Or.inl ⟨by rfl, ?_⟩) ?_ ?_
            rotate_left
            · intro w'
              go_simp
              with_reducible rfl
            rotate_left
            · simp only [Act.put, List.setIfInBounds_toArray, List.set_cons_zero, List.set_cons_succ, i64_w, i32_w]
              rfl
            refine pure_ (i := 7) (N := some 100) (v := ?_) (a' := ?_) #[true, true, true, true, true, false, true, true, false, false, false, false, false, false, false, false, false, false, false, false, false, false, false, false, false] rfl rfl (by kernel_rfl) (fun _ _ _ h => h) (Or.inl ⟨by rfl, ?_⟩) ?_ ?_
            rotate_left
            · intro w'
              go_simp
              with_reducible rfl
            rotate_left
            · simp only [Act.put, List.setIfInBounds_toArray, List.set_cons_zero, List.set_cons_succ, i64_w, i32_w]
              rfl
            refine pure_ (i := 8) (N := some 101) (v := ?_) (a' := ?_) #[true, true, true, true, true, false, true, true, true, false, false, false, false, false, false, false, false, false, false, false, false, false, false, false, false] rfl rfl (by kernel_rfl) (fun _ _ _ h => h) (Or.inl ⟨by rfl, ?_⟩) ?_ ?_
            rotate_left
            · intro w'
              go_simp
              with_reducible rfl
            rotate_left
            · simp only [Act.put, List.setIfInBounds_toArray, List.set_cons_zero, List.set_cons_succ, i64_w, i32_w]
              rfl
            refine pure_ (i := 9) (N := some 102) (v := ?_) (a' := ?_) #[true, true, true, true, true, false, true, true, true, true, false, false, false, false, false, false, false, false, false, false, false, false, false, false, false] rfl rfl (by kernel_rfl) (fun _ _ _ h => h) (Or.inl ⟨by rfl, ?_⟩) ?_ ?_
            rotate_left
            · intro w'
              go_simp
              with_reducible rfl
            rotate_left
            · simp only [Act.put, List.setIfInBounds_toArray, List.set_cons_zero, List.set_cons_succ, i64_w, i32_w]
              rfl
            refine pure_ (i := 12) (N := some 105) (v := ?_) (a' := ?_) #[true, true, true, true, true, false, true, true, true, true, false, false, true, false, false, false, false, false, false, false, false, false, false, false, false] rfl rfl (by kernel_rfl) (fun _ _ _ h => h) (Or.inl ⟨by rfl, ?_⟩) ?_ ?_
            rotate_left
            · intro w'
              go_simp
              with_reducible rfl
            rotate_left
            · simp only [Act.put, List.setIfInBounds_toArray, List.set_cons_zero, List.set_cons_succ, i64_w, i32_w]
              rfl
            refine pure_ (i := 13) (N := some 106) (v := ?_) (a' := ?_) #[true, true, true, true, true, false, true, true, true, true, false, false, true, true, false, false, false, false, false, false, false, false, false, false, false] rfl rfl (by kernel_rfl) (fun _ _ _ h => h) (Or.inl ⟨by rfl, ?_⟩) ?_ ?_
            rotate_left
            · intro w'
              go_simp
              with_reducible rfl
            rotate_left
            · simp only [Act.put, List.setIfInBounds_toArray, List.set_cons_zero, List.set_cons_succ, i64_w, i32_w]
              rfl
            refine pure_ (i := 14) (N := some 107) (v := ?_) (a' := ?_) #[true, true, true, true, true, false, true, true, true, true, false, false, true, true, true, false, false, false, false, false, false, false, false, false, false] rfl rfl (by kernel_rfl) (fun _ _ _ h => h) (Or.inl ⟨by rfl, ?_⟩) ?_ ?_
            rotate_left
            · intro w'
              go_simp
              with_reducible rfl
            rotate_left
            · simp only [Act.put, List.setIfInBounds_toArray, List.set_cons_zero, List.set_cons_succ, i64_w, i32_w]
              rfl
            refine pure_ (i := 15) (N := some 108) (v := ?_) (a' := ?_) #[true, true, true, true, true, false, true, true, true, true, false, false, true, true, true, true, false, false, false, false, false, false, false, false, false] rfl rfl (by kernel_rfl) (fun _ _ _ h => h) (Or.inl ⟨by rfl, ?_⟩) ?_ ?_
            rotate_left
            · intro w'
              go_simp
              with_reducible rfl
            rotate_left
            · simp only [Act.put, List.setIfInBounds_toArray, List.set_cons_zero, List.set_cons_succ, i64_w, i32_w]
              rfl
            refine pure_ (i := 16) (N := some 109) (v := ?_) (a' := ?_) #[true, true, true, true, true, false, true, true, true, true, false, false, true, true, true, true, true, false, false, false, false, false, false, false, false] rfl rfl (by kernel_rfl) (fun _ _ _ h => h) (Or.inl ⟨by rfl, ?_⟩) ?_ ?_
            rotate_left
            · intro w'
              go_simp
              with_reducible rfl
            rotate_left
            · simp only [Act.put, List.setIfInBounds_toArray, List.set_cons_zero, List.set_cons_succ, i64_w, i32_w]
              rfl
            refine pure_ (i := 18) (N := some 111) (v := ?_) (a' := ?_) #[true, true, true, true, true, false, true, true, true, true, false, false, true, true, true, true, true, false, true, false, false, false, false, false, false] rfl rfl (by kernel_rfl) (fun _ _ _ h => h) (Or.inl ⟨by rfl, ?_⟩) ?_ ?_
            rotate_left
            · intro w'
              go_simp
              with_reducible rfl
            rotate_left
            · simp only [Act.put, List.setIfInBounds_toArray, List.set_cons_zero, List.set_cons_succ, i64_w, i32_w]
              rfl
            refine pure_ (i := 19) (N := some 112) (v := ?_) (a' := ?_) #[true, true, true, true, true, false, true, true, true, true, false, false, true, true, true, true, true, false, true, true, false, false, false, false, false] rfl rfl (by kernel_rfl) (fun _ _ _ h => h) (Or.inl ⟨by rfl, ?_⟩) ?_ ?_
            rotate_left
            · intro w'
              go_simp
              with_reducible rfl
            rotate_left
            · simp only [Act.put, List.setIfInBounds_toArray, List.set_cons_zero, List.set_cons_succ, i64_w, i32_w]
              rfl
            refine pure_ (i := 20) (N := some 113) (v := ?_) (a' := ?_) #[true, true, true, true, true, false, true, true, true, true, false, false, true, true, true, true, true, false, true, true, true, false, false, false, false] rfl rfl (by kernel_rfl) (fun _ _ _ h => h) (Or.inl ⟨by rfl, ?_⟩) ?_ ?_
            rotate_left
            · intro w'
              go_simp
              with_reducible rfl
            rotate_left
            · simp only [Act.put, List.setIfInBounds_toArray, List.set_cons_zero, List.set_cons_succ, i64_w, i32_w]
              rfl
            refine pure_ (i := 21) (N := some 114) (v := ?_) (a' := ?_) #[true, true, true, true, true, false, true, true, true, true, false, false, true, true, true, true, true, false, true, true, true, true, false, false, false] rfl rfl (by kernel_rfl) (fun _ _ _ h => h) (Or.inl ⟨by rfl, ?_⟩) ?_ ?_
            rotate_left
            · intro w'
              go_simp
              with_reducible rfl
            rotate_left
            · simp only [Act.put, List.setIfInBounds_toArray, List.set_cons_zero, List.set_cons_succ, i64_w, i32_w]
              rfl
            refine take_ (i := 5) (N := some 98) (v := ?_) (a' := ?_) #[true, true, true, true, true, true, true, true, true, true, false, false, true, true, true, true, true, false, true, true, true, true, false, false, false] rfl rfl (by kernel_rfl) (fun _ _ _ h => h) (Or.inl ⟨by rfl, ?_⟩) hHeld ?_ ?_
            rotate_left
            · rintro w' ⟨s0, s1⟩
              go_simp
              with_reducible rfl
            rotate_left
            · simp only [Act.put, List.setIfInBounds_toArray, List.set_cons_zero, List.set_cons_succ, i64_w, i32_w]
              rfl
            refine take_ (i := 10) (N := some 103) (a' := ?_) #[true, true, true, true, true, true, true, true, true, true, true, false, true, true, true, true, true, false, true, true, true, true, false, false, false] rfl rfl (by kernel_rfl) (fun _ _ _ h => h) (yieldsIf_load_mid (by rfl) 27 _ rfl ob (oo + i * 4 + 2) (by rfl) [.int .i64 k1, .int .i64 k2] _ (fun w' h => h.2) Try.underlying27 rfl (by kernel_rfl)) hHeld ?_ ?_
            rotate_left
            · simp only [Act.put, List.setIfInBounds_toArray, List.set_cons_zero, List.set_cons_succ, i64_w, i32_w]
              rfl
            refine take_ (i := 17) (N := some 110) (v := ?_) (a' := ?_) #[true, true, true, true, true, true, true, true, true, true, true, false, true, true, true, true, true, true, true, true, true, true, false, false, false] rfl rfl (by kernel_rfl) (fun _ _ _ h => h) (Or.inl ⟨by rfl, ?_⟩) hHeld ?_ ?_
            rotate_left
            · rintro w' ⟨s0, s1⟩
              go_simp
              with_reducible rfl
            rotate_left
            · simp only [Act.put, List.setIfInBounds_toArray, List.set_cons_zero, List.set_cons_succ, i64_w, i32_w]
              rfl
            refine take_ (i := 22) (N := some 115) (a' := ?_) #[true, true, true, true, true, true, true, true, true, true, true, false, true, true, true, true, true, true, true, true, true, true, true, false, false] rfl rfl (by kernel_rfl) (fun _ _ _ h => h) (yieldsIf_load_mid (by rfl) 27 _ rfl ob (oo + i * 4 + 2) (by rfl) [.int .i64 k1, .int .i64 k2] _ (fun w' h => h.2) Try.underlying27 rfl (by kernel_rfl)) hHeld ?_ ?_
            rotate_left
            · simp only [Act.put, List.setIfInBounds_toArray, List.set_cons_zero, List.set_cons_succ, i64_w, i32_w]
              rfl
            refine one_ (i := 11) (N := some 104) #[true, true, true, true, true, true, true, true, true, true, true, true, true, true, true, true, true, true, true, true, true, true, true, false, false] rfl rfl (by kernel_rfl) (by decide) (fun K hK => ?_)
            refine goesV_ Try.func30 (by kernel_rfl) rfl #[.pointer (some ⟨g, 0, none⟩), .int .i64 hd, .agg #[.int .i64 k1, .int .i64 k2]] (by rfl) rfl rfl (by rfl) (by simp only [List.map_toArray, List.map_cons, List.map_nil]; rfl) ?_
            with_reducible refine (CP.out).mono ?_
            rintro r w2 ⟨rfl, q2, e2⟩
            have BB2 := Lib.hid (HR.out.below.drew.trans (e2.below HR.out.below.size))
            have RR2 := Lib.hid ((RR.out.eff (Eff.refl (fun _ => False) wr).drew (fun _ _ h => h)).effT e2)
            have QQ2 := Lib.hid q2
            clear q2 e2
            refine ⟨_, rfl, ?_⟩
            refine hK.out _ _ ⟨(XH.out w2 BB2.out), (XA.out w2 BB2.out)⟩ (fun hHeld => ?_)
            clear hK K
            refine norm_ (a' := ?_) ?_ ?_
            rotate_left
            · show Act.put _ (some 104) _ = _
              simp only [Act.put, List.setIfInBounds_toArray, List.set_cons_zero, List.set_cons_succ, i64_w, i32_w]
              rfl
            refine one_ (i := 23) (N := some 116) #[true, true, true, true, true, true, true, true, true, true, true, true, true, true, true, true, true, true, true, true, true, true, true, true, false] rfl rfl (by kernel_rfl) (by decide) (fun K hK => ?_)
            refine goesV_ Try.func36 (by kernel_rfl) rfl #[.pointer (some ⟨m, 0, none⟩), .int .i64 hd, .agg #[.int .i64 k1, .int .i64 k2]] (by rfl) rfl rfl (by rfl) (by simp only [List.map_toArray, List.map_cons, List.map_nil]; rfl) ?_
            with_reducible refine (upd_R RR2.out hp3 hp4 hp5 hd ⟨k1, k2⟩).mono ?_
            rintro r w3 (⟨_, hno, _⟩ | ⟨n, e, rfl, hn, he, r3, e3⟩)
            · exact absurd HEX.out.1 (hno _ (HR.out.pi.p.symm.subset (HEX.out.2.symm.subset List.mem_cons_self)))
            have BB3 := Lib.hid (RR2.out.base BB2.out BB2.out.size e3)
            have QQ3 := Lib.hid (QQ2.out.effR RR2.out e3)
            have RR3 := Lib.hid r3
            have HNN := Lib.hid (And.intro hn he)
            clear r3 e3 hn he
            refine ⟨_, rfl, ?_⟩
            refine hK.out _ _ ⟨(XH.out w3 BB3.out), (XA.out w3 BB3.out)⟩ (fun hHeld => ?_)
            clear hK K
            refine norm_ (a' := ?_) ?_ ?_
            rotate_left
            · show Act.put _ (some 116) _ = _
              simp only [Act.put, List.setIfInBounds_toArray, List.set_cons_zero, List.set_cons_succ, i64_w, i32_w]
              rfl
            refine pure_ (i := 24) (N := some 117) (v := ?_) (a' := ?_) #[true, true, true, true, true, true, true, true, true, true, true, true, true, true, true, true, true, true, true, true, true, true, true, true, true] rfl rfl (by kernel_rfl) (fun _ _ _ h => h) (Or.inl ⟨by rfl, ?_⟩) ?_ ?_
            rotate_left
            · intro w'
              go_simp
              with_reducible rfl
            rotate_left
            · simp only [Act.put, List.setIfInBounds_toArray, List.set_cons_zero, List.set_cons_succ, i64_w, i32_w]
              rfl
            refine done_ (by kernel_rfl) ?_
            have JJ : Hid (PlaysInv w w3 g m (i + 1) (⟨⟨k1, k2⟩, hd, ck⟩ :: R) (es.set n ⟨⟨k1, k2⟩, hd, ck⟩) nx (ck + 1)) := ⟨QQ3.out, ⟨_, RR3.out⟩, HR.out.pi.upd HEX.out.2 HNN.out.1 HEX.out.1 HNN.out.2 _, BB3.out⟩
            clear CP hHeld RR2 QQ2 QQ3 RR3 hp3 hp4 hp5 hp6
            obtain ⟨ln, hln⟩ : ∃ x : Int, (((⟨⟨k1, k2⟩, hd, ck⟩ :: R)).length : Int) = x := ⟨_, rfl⟩
            have CL := Lib.hid (JJ.out.lenQ ln hln)
            have CM := Lib.hid (JJ.out.lenR ln hln)
            clear hln
            go_wp2_with fail
            with_reducible refine CL.out.mono ?_
            rintro r w8 ⟨rfl, rfl⟩
            go_wp2_with fail
            with_reducible refine CM.out.mono ?_
            rintro r w9 ⟨rfl, rfl⟩
            go_wp2_with fail
            go_roundg (200 - (i + 1))
            case measure => omega
            case rel => exact ⟨i + 1, (⟨⟨k1, k2⟩, hd, ck⟩ :: R), _, _, _, by go_num, by omega, by omega, by omega, JJ.out⟩

        · skip
          as_aux_lemma =>
            have hp := HR.out.pi
            have hl0 := hp.p.length_eq
            have hp3 : 0 ≤ ck := hp.ck0
            have hp4 : ck ≤ 1000000000 := by have := hp.ck1; omega
            have hp5 : es.length ≤ 1000000000 := by have := hp.len; omega
            have hp6 : S.length ≤ 1000000000 := by have := hp.len; omega
            clear hp hl0
            have HEX : Hid (∀ e ∈ S, e.h ≠ hd) := fun e he h => hex ⟨e, he, h⟩
            have CP := Lib.hid (updNoneA_E (w := wr.drew) HR.out.q.drew hd HEX.out ⟨k1, k2⟩)
            clear hex
            go_wp2_with fail
            have hlz : (i : Int) < (ops.length : Int) := by omega
            refine start_ (n := 25) (S := fun w' => w'.cell? ⟨ob, oo + i * 4 + 1, none⟩ = some (.int .i64 hd) ∧ w'.rangeAt ob (oo + i * 4 + 2) [.int .i64 k1, .int .i64 k2]) (ds := []) #[false, false, false, false, false, false, false, false, false, false, false, false, false, false, false, false, false, false, false, false, false, false, false, false, false] (by kernel_rfl) rfl rfl ⟨(XH.out wr.drew HR.out.below.drew), (XA.out wr.drew HR.out.below.drew)⟩ (fun hHeld => ?_)
            refine pure_ (i := 0) (N := some 93) (v := ?_) (a' := ?_) #[true, false, false, false, false, false, false, false, false, false, false, false, false, false, false, false, false, false, false, false, false, false, false, false, false] rfl rfl (by kernel_rfl) (fun _ _ _ h => h) (Or.inl ⟨by rfl, ?_⟩) ?_ ?_
            rotate_left
            · intro w'
              go_simp
              with_reducible rfl
            rotate_left
            · simp only [Act.put, List.setIfInBounds_toArray, List.set_cons_zero, List.set_cons_succ, i64_w, i32_w]
              rfl
            refine pure_ (i := 1) (N := some 94) (v := ?_) (a' := ?_) #[true, true, false, false, false, false, false, false, false, false, false, false, false, false, false, false, false, false, false, false, false, false, false, false, false] rfl rfl (by kernel_rfl) (fun _ _ _ h => h) (Or.inl ⟨by rfl, ?_⟩) ?_ ?_
            rotate_left
            · intro w'
              go_simp
              with_reducible rfl
            rotate_left
            · simp only [Act.put, List.setIfInBounds_toArray, List.set_cons_zero, List.set_cons_succ, i64_w, i32_w]
              rfl
            refine pure_ (i := 2) (N := some 95) (v := ?_) (a' := ?_) #[true, true, true, false, false, false, false, false, false, false, false, false, false, false, false, false, false, false, false, false, false, false, false, false, false] rfl rfl (by kernel_rfl) (fun _ _ _ h => h) (Or.inl ⟨by rfl, ?_⟩) ?_ ?_
            rotate_left
            · intro w'
              go_simp
              with_reducible rfl
            rotate_left
            · simp only [Act.put, List.setIfInBounds_toArray, List.set_cons_zero, List.set_cons_succ, i64_w, i32_w]
              rfl
            refine pure_ (i := 3) (N := some 96) (v := ?_) (a' := ?_) #[true, true, true, true, false, false, false, false, false, false, false, false, false, false, false, false, false, false, false, false, false, false, false, false, false] rfl rfl (by kernel_rfl) (fun _ _ _ h => h) (Or.inl ⟨by rfl, ?_⟩) ?_ ?_
            rotate_left
            · intro w'
              go_simp
              with_reducible rfl
            rotate_left
            · simp only [Act.put, List.setIfInBounds_toArray, List.set_cons_zero, List.set_cons_succ, i64_w, i32_w]
              rfl
            refine pure_ (i := 4) (N := some 97) (v := ?_) (a' := ?_) #[true, true, true, true, true, false, false, false, false, false, false, false, false, false, false, false, false, false, false, false, false, false, false, false, false] rfl rfl (by kernel_rfl) (fun _ _ _ h => h) (Or.inl ⟨by rfl, ?_⟩) ?_ ?_
            rotate_left
            · intro w'
              go_simp
              with_reducible rfl
            rotate_left
            · simp only [Act.put, List.setIfInBounds_toArray, List.set_cons_zero, List.set_cons_succ, i64_w, i32_w]
              rfl
            refine pure_ (i := 6) (N := some 99) (v := ?_) (a' := ?_) #[true, true, true, true, true, false, true, false, false, false, false, false, false, false, false, false, false, false, false, false, false, false, false, false, false] rfl rfl (by kernel_rfl) (fun _ _ _ h => h) (Or.inl ⟨by rfl, ?_⟩) ?_ ?_
            rotate_left
            · intro w'
              go_simp
              with_reducible rfl
            rotate_left
            · simp only [Act.put, List.setIfInBounds_toArray, List.set_cons_zero, List.set_cons_succ, i64_w, i32_w]
              rfl
            refine pure_ (i := 7) (N := some 100) (v := ?_) (a' := ?_) #[true, true, true, true, true, false, true, true, false, false, false, false, false, false, false, false, false, false, false, false, false, false, false, false, false] rfl rfl (by kernel_rfl) (fun _ _ _ h => h) (Or.inl ⟨by rfl, ?_⟩) ?_ ?_
            rotate_left
            · intro w'
              go_simp
              with_reducible rfl
            rotate_left
            · simp only [Act.put, List.setIfInBounds_toArray, List.set_cons_zero, List.set_cons_succ, i64_w, i32_w]
              rfl
            refine pure_ (i := 8) (N := some 101) (v := ?_) (a' := ?_) #[true, true, true, true, true, false, true, true, true, false, false, false, false, false, false, false, false, false, false, false, false, false, false, false, false] rfl rfl (by kernel_rfl) (fun _ _ _ h => h) (Or.inl ⟨by rfl, ?_⟩) ?_ ?_
            rotate_left
            · intro w'
              go_simp
              with_reducible rfl
            rotate_left
            · simp only [Act.put, List.setIfInBounds_toArray, List.set_cons_zero, List.set_cons_succ, i64_w, i32_w]
              rfl
            refine pure_ (i := 9) (N := some 102) (v := ?_) (a' := ?_) #[true, true, true, true, true, false, true, true, true, true, false, false, false, false, false, false, false, false, false, false, false, false, false, false, false] rfl rfl (by kernel_rfl) (fun _ _ _ h => h) (Or.inl ⟨by rfl, ?_⟩) ?_ ?_
            rotate_left
            · intro w'
              go_simp
              with_reducible rfl
            rotate_left
            · simp only [Act.put, List.setIfInBounds_toArray, List.set_cons_zero, List.set_cons_succ, i64_w, i32_w]
              rfl
            refine pure_ (i := 12) (N := some 105) (v := ?_) (a' := ?_) #[true, true, true, true, true, false, true, true, true, true, false, false, true, false, false, false, false, false, false, false, false, false, false, false, false] rfl rfl (by kernel_rfl) (fun _ _ _ h => h) (Or.inl ⟨by rfl, ?_⟩) ?_ ?_
            rotate_left
            · intro w'
              go_simp
              with_reducible rfl
            rotate_left
            · simp only [Act.put, List.setIfInBounds_toArray, List.set_cons_zero, List.set_cons_succ, i64_w, i32_w]
              rfl
            refine pure_ (i := 13) (N := some 106) (v := ?_) (a' := ?_) #[true, true, true, true, true, false, true, true, true, true, false, false, true, true, false, false, false, false, false, false, false, false, false, false, false] rfl rfl (by kernel_rfl) (fun _ _ _ h => h) (Or.inl ⟨by rfl, ?_⟩) ?_ ?_
            rotate_left
            · intro w'
              go_simp
              with_reducible rfl
            rotate_left
            · simp only [Act.put, List.setIfInBounds_toArray, List.set_cons_zero, List.set_cons_succ, i64_w, i32_w]
              rfl
            refine pure_ (i := 14) (N := some 107) (v := ?_) (a' := ?_) #[true, true, true, true, true, false, true, true, true, true, false, false, true, true, true, false, false, false, false, false, false, false, false, false, false] rfl rfl (by kernel_rfl) (fun _ _ _ h => h) (Or.inl ⟨by rfl, ?_⟩) ?_ ?_
            rotate_left
            · intro w'
              go_simp
              with_reducible rfl
            rotate_left
            · simp only [Act.put, List.setIfInBounds_toArray, List.set_cons_zero, List.set_cons_succ, i64_w, i32_w]
              rfl
            refine pure_ (i := 15) (N := some 108) (v := ?_) (a' := ?_) #[true, true, true, true, true, false, true, true, true, true, false, false, true, true, true, true, false, false, false, false, false, false, false, false, false] rfl rfl (by kernel_rfl) (fun _ _ _ h => h) (Or.inl ⟨by rfl, ?_⟩) ?_ ?_
            rotate_left
            · intro w'
              go_simp
              with_reducible rfl
            rotate_left
            · simp only [Act.put, List.setIfInBounds_toArray, List.set_cons_zero, List.set_cons_succ, i64_w, i32_w]
              rfl
            refine pure_ (i := 16) (N := some 109) (v := ?_) (a' := ?_) #[true, true, true, true, true, false, true, true, true, true, false, false, true, true, true, true, true, false, false, false, false, false, false, false, false] rfl rfl (by kernel_rfl) (fun _ _ _ h => h) (Or.inl ⟨by rfl, ?_⟩) ?_ ?_
            rotate_left
            · intro w'
              go_simp
              with_reducible rfl
            rotate_left
            · simp only [Act.put, List.setIfInBounds_toArray, List.set_cons_zero, List.set_cons_succ, i64_w, i32_w]
              rfl
            refine pure_ (i := 18) (N := some 111) (v := ?_) (a' := ?_) #[true, true, true, true, true, false, true, true, true, true, false, false, true, true, true, true, true, false, true, false, false, false, false, false, false] rfl rfl (by kernel_rfl) (fun _ _ _ h => h) (Or.inl ⟨by rfl, ?_⟩) ?_ ?_
            rotate_left
            · intro w'
              go_simp
              with_reducible rfl
            rotate_left
            · simp only [Act.put, List.setIfInBounds_toArray, List.set_cons_zero, List.set_cons_succ, i64_w, i32_w]
              rfl
            refine pure_ (i := 19) (N := some 112) (v := ?_) (a' := ?_) #[true, true, true, true, true, false, true, true, true, true, false, false, true, true, true, true, true, false, true, true, false, false, false, false, false] rfl rfl (by kernel_rfl) (fun _ _ _ h => h) (Or.inl ⟨by rfl, ?_⟩) ?_ ?_
            rotate_left
            · intro w'
              go_simp
              with_reducible rfl
            rotate_left
            · simp only [Act.put, List.setIfInBounds_toArray, List.set_cons_zero, List.set_cons_succ, i64_w, i32_w]
              rfl
            refine pure_ (i := 20) (N := some 113) (v := ?_) (a' := ?_) #[true, true, true, true, true, false, true, true, true, true, false, false, true, true, true, true, true, false, true, true, true, false, false, false, false] rfl rfl (by kernel_rfl) (fun _ _ _ h => h) (Or.inl ⟨by rfl, ?_⟩) ?_ ?_
            rotate_left
            · intro w'
              go_simp
              with_reducible rfl
            rotate_left
            · simp only [Act.put, List.setIfInBounds_toArray, List.set_cons_zero, List.set_cons_succ, i64_w, i32_w]
              rfl
            refine pure_ (i := 21) (N := some 114) (v := ?_) (a' := ?_) #[true, true, true, true, true, false, true, true, true, true, false, false, true, true, true, true, true, false, true, true, true, true, false, false, false] rfl rfl (by kernel_rfl) (fun _ _ _ h => h) (Or.inl ⟨by rfl, ?_⟩) ?_ ?_
            rotate_left
            · intro w'
              go_simp
              with_reducible rfl
            rotate_left
            · simp only [Act.put, List.setIfInBounds_toArray, List.set_cons_zero, List.set_cons_succ, i64_w, i32_w]
              rfl
            refine take_ (i := 5) (N := some 98) (v := ?_) (a' := ?_) #[true, true, true, true, true, true, true, true, true, true, false, false, true, true, true, true, true, false, true, true, true, true, false, false, false] rfl rfl (by kernel_rfl) (fun _ _ _ h => h) (Or.inl ⟨by rfl, ?_⟩) hHeld ?_ ?_
            rotate_left
            · rintro w' ⟨s0, s1⟩
              go_simp
              with_reducible rfl
            rotate_left
            · simp only [Act.put, List.setIfInBounds_toArray, List.set_cons_zero, List.set_cons_succ, i64_w, i32_w]
              rfl
            refine take_ (i := 10) (N := some 103) (a' := ?_) #[true, true, true, true, true, true, true, true, true, true, true, false, true, true, true, true, true, false, true, true, true, true, false, false, false] rfl rfl (by kernel_rfl) (fun _ _ _ h => h) (yieldsIf_load_mid (by rfl) 27 _ rfl ob (oo + i * 4 + 2) (by rfl) [.int .i64 k1, .int .i64 k2] _ (fun w' h => h.2) Try.underlying27 rfl (by kernel_rfl)) hHeld ?_ ?_
            rotate_left
            · simp only [Act.put, List.setIfInBounds_toArray, List.set_cons_zero, List.set_cons_succ, i64_w, i32_w]
              rfl
            refine take_ (i := 17) (N := some 110) (v := ?_) (a' := ?_) #[true, true, true, true, true, true, true, true, true, true, true, false, true, true, true, true, true, true, true, true, true, true, false, false, false] rfl rfl (by kernel_rfl) (fun _ _ _ h => h) (Or.inl ⟨by rfl, ?_⟩) hHeld ?_ ?_
            rotate_left
            · rintro w' ⟨s0, s1⟩
              go_simp
              with_reducible rfl
            rotate_left
            · simp only [Act.put, List.setIfInBounds_toArray, List.set_cons_zero, List.set_cons_succ, i64_w, i32_w]
              rfl
            refine take_ (i := 22) (N := some 115) (a' := ?_) #[true, true, true, true, true, true, true, true, true, true, true, false, true, true, true, true, true, true, true, true, true, true, true, false, false] rfl rfl (by kernel_rfl) (fun _ _ _ h => h) (yieldsIf_load_mid (by rfl) 27 _ rfl ob (oo + i * 4 + 2) (by rfl) [.int .i64 k1, .int .i64 k2] _ (fun w' h => h.2) Try.underlying27 rfl (by kernel_rfl)) hHeld ?_ ?_
            rotate_left
            · simp only [Act.put, List.setIfInBounds_toArray, List.set_cons_zero, List.set_cons_succ, i64_w, i32_w]
              rfl
            refine one_ (i := 11) (N := some 104) #[true, true, true, true, true, true, true, true, true, true, true, true, true, true, true, true, true, true, true, true, true, true, true, false, false] rfl rfl (by kernel_rfl) (by decide) (fun K hK => ?_)
            refine goesV_ Try.func30 (by kernel_rfl) rfl #[.pointer (some ⟨g, 0, none⟩), .int .i64 hd, .agg #[.int .i64 k1, .int .i64 k2]] (by rfl) rfl rfl (by rfl) (by simp only [List.map_toArray, List.map_cons, List.map_nil]; rfl) ?_
            with_reducible refine (CP.out).mono ?_
            rintro r w2 ⟨rfl, q2, e2⟩
            have BB2 := Lib.hid (HR.out.below.drew.trans (e2.below HR.out.below.size))
            have RR2 := Lib.hid ((RR.out.eff (Eff.refl (fun _ => False) wr).drew (fun _ _ h => h)).effT e2)
            have QQ2 := Lib.hid q2
            clear q2 e2
            refine ⟨_, rfl, ?_⟩
            refine hK.out _ _ ⟨(XH.out w2 BB2.out), (XA.out w2 BB2.out)⟩ (fun hHeld => ?_)
            clear hK K
            refine norm_ (a' := ?_) ?_ ?_
            rotate_left
            · show Act.put _ (some 104) _ = _
              simp only [Act.put, List.setIfInBounds_toArray, List.set_cons_zero, List.set_cons_succ, i64_w, i32_w]
              rfl
            refine one_ (i := 23) (N := some 116) #[true, true, true, true, true, true, true, true, true, true, true, true, true, true, true, true, true, true, true, true, true, true, true, true, false] rfl rfl (by kernel_rfl) (by decide) (fun K hK => ?_)
            refine goesV_ Try.func36 (by kernel_rfl) rfl #[.pointer (some ⟨m, 0, none⟩), .int .i64 hd, .agg #[.int .i64 k1, .int .i64 k2]] (by rfl) rfl rfl (by rfl) (by simp only [List.map_toArray, List.map_cons, List.map_nil]; rfl) ?_
            with_reducible refine (upd_R RR2.out hp3 hp4 hp5 hd ⟨k1, k2⟩).mono ?_
            rintro r w3 (⟨rfl, _, b3⟩ | ⟨n, e, rfl, hn, he, _⟩)
            rotate_left
            · exact absurd he (HEX.out e (HR.out.pi.p.subset (List.mem_of_getElem? hn)))
            have BB3 := Lib.hid (BB2.out.trans (b3.mono BB2.out.size))
            have QQ3 := Lib.hid (QQ2.out.eff b3)
            have RR3 := Lib.hid (RR2.out.below b3)
            clear b3
            refine ⟨_, rfl, ?_⟩
            refine hK.out _ _ ⟨(XH.out w3 BB3.out), (XA.out w3 BB3.out)⟩ (fun hHeld => ?_)
            clear hK K
            refine norm_ (a' := ?_) ?_ ?_
            rotate_left
            · show Act.put _ (some 116) _ = _
              simp only [Act.put, List.setIfInBounds_toArray, List.set_cons_zero, List.set_cons_succ, i64_w, i32_w]
              rfl
            refine pure_ (i := 24) (N := some 117) (v := ?_) (a' := ?_) #[true, true, true, true, true, true, true, true, true, true, true, true, true, true, true, true, true, true, true, true, true, true, true, true, true] rfl rfl (by kernel_rfl) (fun _ _ _ h => h) (Or.inl ⟨by rfl, ?_⟩) ?_ ?_
            rotate_left
            · intro w'
              go_simp
              with_reducible rfl
            rotate_left
            · simp only [Act.put, List.setIfInBounds_toArray, List.set_cons_zero, List.set_cons_succ, i64_w, i32_w]
              rfl
            refine done_ (by kernel_rfl) ?_
            have JJ : Hid (PlaysInv w w3 g m (i + 1) S es nx ck) := ⟨QQ3.out, ⟨_, RR3.out⟩, HR.out.pi.next, BB3.out⟩
            clear CP hHeld RR2 QQ2 QQ3 RR3 hp3 hp4 hp5 hp6
            obtain ⟨ln, hln⟩ : ∃ x : Int, ((S).length : Int) = x := ⟨_, rfl⟩
            have CL := Lib.hid (JJ.out.lenQ ln hln)
            have CM := Lib.hid (JJ.out.lenR ln hln)
            clear hln
            go_wp2_with fail
            with_reducible refine CL.out.mono ?_
            rintro r w8 ⟨rfl, rfl⟩
            go_wp2_with fail
            with_reducible refine CM.out.mono ?_
            rintro r w9 ⟨rfl, rfl⟩
            go_wp2_with fail
            go_roundg (200 - (i + 1))
            case measure => omega
            case rel => exact ⟨i + 1, S, _, _, _, by go_num, by omega, by omega, by omega, JJ.out⟩

      have g3 : (kd == 3) = false := beq_eq_false_iff_ne.2 h3
      clear h0 h1 h2 h3
      have JJ := Lib.hid HR.out.next
      as_aux_lemma =>
        obtain ⟨ln, hln⟩ : ∃ x : Int, ((S).length : Int) = x := ⟨_, rfl⟩
        have CL := Lib.hid (JJ.out.lenQ ln hln)
        have CM := Lib.hid (JJ.out.lenR ln hln)
        clear hln
        go_wp2_with fail
        with_reducible refine CL.out.mono ?_
        rintro r w8 ⟨rfl, rfl⟩
        go_wp2_with fail
        with_reducible refine CM.out.mono ?_
        rintro r w9 ⟨rfl, rfl⟩
        go_wp2_with fail
        go_roundg (200 - (i + 1))
        case measure => omega
        case rel => exact ⟨i + 1, S, _, _, _, by go_num, by omega, by omega, by omega, JJ.out⟩

    · by_cases hlt1 : i < ops.length
      · have hlz : (i : Int) < (ops.length : Int) := by omega
        have hlz2 : ¬ (i : Int) < 200 := by omega
        go_wp2_with fail
        refine (awake28 _).mono ?_
        rintro r w3 ⟨rfl, hb3⟩
        have B3 := Lib.hid (HR.out.below.trans (hb3.mono HR.out.below.size))
        clear hb3
        go_wp2_with fail
        go_ret
        exact ⟨rfl, B3.out⟩
      · have hlz : ¬ (i : Int) < (ops.length : Int) := by omega
        go_wp2_with fail
        refine (awake28 _).mono ?_
        rintro r w3 ⟨rfl, hb3⟩
        have B3 := Lib.hid (HR.out.below.trans (hb3.mono HR.out.below.size))
        clear hb3
        go_wp2_with fail
        go_ret
        exact ⟨rfl, B3.out⟩
end Go.Proofs.Ytepfbhigeghjjaa.Q
