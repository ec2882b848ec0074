/- PqueuePeeks: the walk. -/
import Derived.Test.YtepfbhigeghjjaaL28a
import Derived.Test.YtepfbhigeghjjaaL28p
namespace Go.Proofs.Ytepfbhigeghjjaa.Q
open Go.RowKit Go.Proofs.YtepfbhigeghjjaaW.PrintLast
set_option linter.unusedVariables false
set_option linter.unusedSimpArgs false

/-! ### PqueuePeeks: the machine's side -/
theorem min_same {ks : List Int} {S R R0 : List (En E28)} {m m0 : En E28} (hnd : (S.map (·.h)).Nodup) (hent : ∀ e ∈ S, ∃ j, j < ks.length ∧ e = ent ks j) (h0 : S.Perm (m0 :: R0)) (hm0 : ∀ x ∈ R0, bef x m0 = false) (h : S.Perm (m :: R)) (hm : ∀ x ∈ R, bef x m = false) : m = m0 := by
  refine (min_unique h0 (fun x hx => ?_) h hm).1
  have h1 := hm0 x hx
  have h2 := (h0.map (·.h)).nodup_iff.1 hnd
  simp only [List.map_cons, List.nodup_cons] at h2
  obtain ⟨j, hj, rfl⟩ := hent x (h0.symm.subset (List.mem_cons_of_mem _ hx))
  obtain ⟨j0, hj0, rfl⟩ := hent m0 (h0.symm.subset (List.mem_cons_self))
  have hne : ¬ (j : Int) = (j0 : Int) := fun e => h2.1 (List.mem_map.2 ⟨_, hx, e⟩)
  rw [nbef_iff] at h1
  rw [bef_iff]
  have h1' : ¬ (ks.getD j 0 < ks.getD j0 0 ∨ ks.getD j 0 = ks.getD j0 0 ∧ ((0:Int) < 0 ∨ (0:Int) = 0 ∧ (j:Int) < (j0:Int))) := h1
  show ks.getD j0 0 < ks.getD j 0 ∨ ks.getD j0 0 = ks.getD j 0 ∧ ((0:Int) < 0 ∨ (0:Int) = 0 ∧ (j0:Int) < (j:Int))
  omega
/-- What holds behind i rounds. -/
structure PeeksInv (ks : List Int) (w wr : World) (g i : Nat) (rest : List (En E28)) : Prop where
  q : QA 90 92 lessE w.heap.size wr g rest ks.length ks.length
  below : Below w.heap.size w wr
  len : rest.length = ks.length - i
  nd : (rest.map (·.h)).Nodup
  ent : ∀ e ∈ rest, ∃ j, j < ks.length ∧ e = ent ks j
set_option maxHeartbeats 800000 in
set_option maxRecDepth 100000 in
theorem peeks_walk (A : Option Addr) (ks : List Int) (cap : Nat) (w : World) (hA : ∀ j, j < ks.length → ∃ ad, A = some ad ∧ w.cell? (ad.add j) = some (.int .i64 (ks.getD j 0))) (hmx : ks.length ≤ 9223372036854775807) :
    Calls Try.prog 6 #[.slice A ks.length cap] w fun r w' => r = .returned (.bool true) ∧ Below w.heap.size w w' := by
  have HA := Lib.hid hA
  clear hA
  by_cases hbig : 100 < ks.length
  · have hb : (100 : Int) < (ks.length : Int) := by omega
    go_enter Try.func6, Try.ntmps6
    go_wp2_with fail
    refine (awake28 w).mono ?_
    rintro r w1 ⟨rfl, hb1⟩
    have HB := Lib.hid hb1
    clear hb1
    go_wp2_with fail
    go_ret
    exact ⟨rfl, HB.out⟩
  have hb : ¬ (100 : Int) < (ks.length : Int) := by omega
  have hn : ks.length ≤ 100 := by omega
  go_enter Try.func6, Try.ntmps6
  go_wp2_with fail
  refine (newA_E (B := w.heap.size) w (Nat.le_refl _)).mono ?_
  rintro r w1 ⟨g, rfl, q1, b1⟩
  have Q1 := Lib.hid q1
  have B1 := Lib.hid b1
  clear q1 b1
  go_wp2_with fail
  go_loopg [4] ks.length (fun m si wr => ∃ i : Nat, si = .int .i64 i ∧ i ≤ ks.length ∧ ks.length - i ≤ m ∧ Hid (QA 90 92 lessE w.heap.size wr g (entsL ks i) i i ∧ Below w.heap.size w wr))
  case atStart => exact ⟨0, rfl, by omega, by omega, Q1.out, B1.out⟩
  case round =>
    clear Q1 B1
    obtain ⟨i, rfl, hi, hm, HR⟩ := hrel
    by_cases hlt : i < ks.length
    · obtain ⟨ad, rfl, hc⟩ := HA.out i hlt
      obtain ⟨kv, hkv⟩ : ∃ x, ks.getD i 0 = x := ⟨_, rfl⟩
      have hc1 : wr.cell? (ad.add i) = some (.int .i64 kv) := by rw [← hkv]; exact (HR.out.2.cell (World.block_lt_of_cell? w _ hc)).trans hc
      have CP := Lib.hid (pushA_E HR.out.1 (fun e he => entsL_h he) (by omega) (by omega) (by omega) (by omega) (by rw [entsL_length]; omega) ⟨kv, i⟩)
      have HK := Lib.hid hkv
      clear hkv
      have hlz : (i : Int) < (ks.length : Int) := by omega
      clear hc
      go_wp2_with fail
      with_reducible refine CP.out.mono ?_
      rintro r w2 ⟨rfl, q2, e2⟩
      have Q2 := Lib.hid q2
      have B2 := Lib.hid (HR.out.2.trans (e2.below HR.out.2.size))
      clear q2 e2 hc1
      go_wp2_with fail
      go_roundg (ks.length - (i + 1))
      case measure => omega
      case rel => exact ⟨i + 1, by go_num, by omega, by omega, by rw [show entsL ks (i + 1) = ⟨⟨kv, i⟩, i, i⟩ :: entsL ks i from by rw [← HK.out]; rfl]; exact Q2.out, B2.out⟩
    · have hlz : ¬ (i : Int) < (ks.length : Int) := by omega
      obtain rfl : i = ks.length := by omega
      go_wp2_with fail
      have H0 : Hid (PeeksInv ks w wr g 0 (entsL ks ks.length)) := ⟨HR.out.1, HR.out.2, by rw [entsL_length]; omega, entsL_nodup _ _, fun e he => mem_entsL.1 he⟩
      clear HR HA hi hm hlt hlz
      go_loopg [5] (ks.length + 1) (fun m si wr => ∃ (i : Nat) (rest : List (En E28)), si = .int .i64 i ∧ i ≤ ks.length + 1 ∧ ks.length + 1 - i ≤ m ∧ Hid (PeeksInv ks w wr g i rest))
      case atStart => exact ⟨0, _, rfl, by omega, by omega, H0⟩
      case round =>
        clear H0
        obtain ⟨i, rest, rfl, hi, hm, HR⟩ := hrel
        by_cases hlt : i ≤ ks.length
        · have hlz : (i : Int) ≤ (ks.length : Int) := by omega
          by_cases hlt2 : i < ks.length
          · have hne : rest ≠ [] := by intro h; have := HR.out.len; rw [h] at this; simp at this; omega
            obtain ⟨n, hN⟩ : ∃ n : Int, (ks.length : Int) - (i : Int) = n := ⟨_, rfl⟩
            have hwr : IntKind.i64.wrap ((ks.length : Int) - (i : Int)) = n := by rw [IntWalk.i64_in _ (by omega)]; exact hN
            have hn0 : 0 < n := by omega
            have HN := Lib.hid hN
            clear hN
            have CP := Lib.hid (peekA_E HR.out.q hne)
            go_wp2_with fail
            with_reducible refine CP.out.mono ?_
            rintro r w2 ⟨m1, R1, rfl, hq1, hmin1, q2, e2⟩
            obtain ⟨j, hj, rfl⟩ := HR.out.ent m1 (hq1.symm.subset (List.mem_cons_self))
            obtain ⟨a, ha⟩ : ∃ x, ks.getD j 0 = x := ⟨_, rfl⟩
            obtain ⟨b, hb'⟩ : ∃ x : Int, (j : Int) = x := ⟨_, rfl⟩
            have HC := Lib.hid (show (Cells.cs (ent ks j).x).toArray = #[.int .i64 a, .int .i64 b] from by rw [← ha, ← hb']; rfl)
            rw [HC.out]
            obtain ⟨W3, hW3⟩ : ∃ W, W = w2.alloc (.cells #[.int .i64 a, .int .i64 b] 27) := ⟨_, rfl⟩
            obtain ⟨p3, hp3⟩ : ∃ p, p = w2.heap.size := ⟨_, rfl⟩
            have A3 : Below w2.heap.size w2 W3 := by rw [hW3]; exact (Below.refl _ _).alloc (Nat.le_refl _) _
            have P3 : W3.heap[p3]? = some (.cells #[.int .i64 a, .int .i64 b] 27 (0, 0)) := by rw [hW3, hp3]; exact heap_alloc_new w2 _
            have HW3 := Lib.hid (And.intro hW3 hp3)
            have QQ3 := Lib.hid (q2.eff A3)
            have BB3 := Lib.hid ((HR.out.below.trans (e2.below HR.out.below.size)).trans (A3.mono (Nat.le_trans HR.out.below.size e2.size)))
            have PP3 := Lib.hid P3
            have KK := Lib.hid (And.intro (And.intro hq1 hmin1) trivial)
            clear hW3 hp3 A3 P3 q2 e2 CP hq1 hmin1 ha hb'
            have CP := Lib.hid (peekA_E QQ3.out hne)
            go_wp2_with fail
            rw [← HW3.out.1, ← HW3.out.2]
            with_reducible refine CP.out.mono ?_
            rintro r w4 ⟨m2, R2, rfl, hq2, hmin2, q4, e4⟩
            obtain rfl : m2 = ent ks j := min_same HR.out.nd HR.out.ent KK.out.1.1 KK.out.1.2 hq2 hmin2
            rw [HC.out]
            clear hq2 hmin2
            obtain ⟨W5, hW5⟩ : ∃ W, W = w4.alloc (.cells #[.int .i64 a, .int .i64 b] 27) := ⟨_, rfl⟩
            obtain ⟨p5, hp5⟩ : ∃ p, p = w4.heap.size := ⟨_, rfl⟩
            have A5 : Below w4.heap.size w4 W5 := by rw [hW5]; exact (Below.refl _ _).alloc (Nat.le_refl _) _
            have P5 : W5.heap[p5]? = some (.cells #[.int .i64 a, .int .i64 b] 27 (0, 0)) := by rw [hW5, hp5]; exact heap_alloc_new w4 _
            have HW5 := Lib.hid (And.intro hW5 hp5)
            have PP5 := Lib.hid (And.intro (below_heap A5 (e4.blk p3 _ _ _ PP3.out (by decide) (by decide))) P5)
            have QQ5 := Lib.hid (q4.eff A5)
            have BB5 := Lib.hid ((BB3.out.trans (e4.below BB3.out.size)).trans (A5.mono (Nat.le_trans BB3.out.size e4.size)))
            clear hW5 hp5 A5 P5 q4 e4 CP PP3 QQ3 BB3
            have CL : Hid (Calls Try.prog 31 #[.pointer (some ⟨g, 0, none⟩)] W5 fun r w' => r = .returned (.int .i64 n) ∧ w' = W5) := by
              have := lenA_E QQ5.out
              rw [show ((rest.length : Nat) : Int) = n from by rw [← HN.out]; have := HR.out.len; omega] at this
              exact this
            go_wp2_with fail
            rw [← HW5.out.1, ← HW5.out.2]
            with_reducible refine CL.out.mono ?_
            rintro r w5 ⟨rfl, rfl⟩
            clear CL
            have CP := Lib.hid (popA_E QQ5.out hne (by rw [HR.out.len]; omega))
            go_wp2_with fail
            with_reducible refine CP.out.mono ?_
            rintro r w6 ⟨m3, R3, rfl, hq3, hmin3, q6, e6⟩
            obtain rfl : m3 = ent ks j := min_same HR.out.nd HR.out.ent KK.out.1.1 KK.out.1.2 hq3 hmin3
            rw [HC.out]
            obtain ⟨W7, hW7⟩ : ∃ W, W = w6.alloc (.cells #[.int .i64 a, .int .i64 b] 27) := ⟨_, rfl⟩
            obtain ⟨p7, hp7⟩ : ∃ p, p = w6.heap.size := ⟨_, rfl⟩
            have A7 : Below w6.heap.size w6 W7 := by rw [hW7]; exact (Below.refl _ _).alloc (Nat.le_refl _) _
            have P7 : W7.heap[p7]? = some (.cells #[.int .i64 a, .int .i64 b] 27 (0, 0)) := by rw [hW7, hp7]; exact heap_alloc_new w6 _
            have HW7 := Lib.hid (And.intro hW7 hp7)
            have x1 := below_heap A7 (e6.blk p3 _ _ _ PP5.out.1 (by decide) (by decide))
            have x2 := below_heap A7 (e6.blk p5 _ _ _ PP5.out.2 (by decide) (by decide))
            have BB7 := (BB5.out.trans (e6.below BB5.out.size)).trans (A7.mono (Nat.le_trans BB5.out.size e6.size))
            have NX : Hid (PeeksInv ks w W7 g (i + 1) R3) := ⟨q6.eff A7, BB7, by have := hq3.length_eq; simp only [List.length_cons] at this; have := HR.out.len; omega, by have := (hq3.map (·.h)).nodup_iff.1 HR.out.nd; simp only [List.map_cons, List.nodup_cons] at this; exact this.2, fun e he => HR.out.ent e (hq3.symm.subset (List.mem_cons_of_mem _ he))⟩
            have y1 : W7.cell? ⟨p3, 0, none⟩ = some (.int .i64 a) := by simp only [World.cell?, x1]; rfl
            have y2 : W7.cell? ⟨p3, 1, none⟩ = some (.int .i64 b) := by simp only [World.cell?, x1]; rfl
            have y3 : W7.cell? ⟨p5, 0, none⟩ = some (.int .i64 a) := by simp only [World.cell?, x2]; rfl
            have y4 : W7.cell? ⟨p5, 1, none⟩ = some (.int .i64 b) := by simp only [World.cell?, x2]; rfl
            have y5 : W7.cell? ⟨p7, 0, none⟩ = some (.int .i64 a) := by simp only [World.cell?, P7]; rfl
            have y6 : W7.cell? ⟨p7, 1, none⟩ = some (.int .i64 b) := by simp only [World.cell?, P7]; rfl
            rw [hp7] at y5 y6
            rw [hW7] at y1 y2 y3 y4 y5 y6
            clear CP hW7 hp7 A7 q6 e6 QQ5 BB5 PP5 BB7 KK x1 x2 P7 HW3 HW5 hq3 hmin3 HC
            go_wp2_with fail
            rw [← HW7.out.1]
            go_roundg (ks.length + 1 - (i + 1))
            case measure => omega
            case rel => exact ⟨i + 1, R3, by go_num, by omega, by omega, NX⟩

          · obtain rfl : i = ks.length := by omega
            obtain rfl : rest = [] := List.length_eq_zero_iff.1 (by have := HR.out.len; omega)
            have CP := Lib.hid (peekNoneA_E HR.out.q)
            go_wp2_with fail
            with_reducible refine CP.out.mono ?_
            rintro r w2 ⟨rfl, q2, e2⟩
            obtain ⟨W3, hW3⟩ : ∃ W, W = w2.alloc (.cells #[.int .i64 0, .int .i64 0] 27) := ⟨_, rfl⟩
            obtain ⟨p3, hp3⟩ : ∃ p, p = w2.heap.size := ⟨_, rfl⟩
            have A3 : Below w2.heap.size w2 W3 := by rw [hW3]; exact (Below.refl _ _).alloc (Nat.le_refl _) _
            have P3 : W3.heap[p3]? = some (.cells #[.int .i64 0, .int .i64 0] 27 (0, 0)) := by rw [hW3, hp3]; exact heap_alloc_new w2 _
            have HW3 := Lib.hid (And.intro hW3 hp3)
            have QQ3 := Lib.hid (q2.eff A3)
            have BB3 := Lib.hid ((HR.out.below.trans (e2.below HR.out.below.size)).trans (A3.mono (Nat.le_trans HR.out.below.size e2.size)))
            have PP3 := Lib.hid P3
            have KK := Lib.hid (And.intro True.intro trivial)
            clear hW3 hp3 A3 P3 q2 e2 CP 
            have CP := Lib.hid (peekNoneA_E QQ3.out)
            go_wp2_with fail
            rw [← HW3.out.1, ← HW3.out.2]
            with_reducible refine CP.out.mono ?_
            rintro r w4 ⟨rfl, q4, e4⟩
            obtain ⟨W5, hW5⟩ : ∃ W, W = w4.alloc (.cells #[.int .i64 0, .int .i64 0] 27) := ⟨_, rfl⟩
            obtain ⟨p5, hp5⟩ : ∃ p, p = w4.heap.size := ⟨_, rfl⟩
            have A5 : Below w4.heap.size w4 W5 := by rw [hW5]; exact (Below.refl _ _).alloc (Nat.le_refl _) _
            have P5 : W5.heap[p5]? = some (.cells #[.int .i64 0, .int .i64 0] 27 (0, 0)) := by rw [hW5, hp5]; exact heap_alloc_new w4 _
            have HW5 := Lib.hid (And.intro hW5 hp5)
            have PP5 := Lib.hid (And.intro (below_heap A5 (e4.blk p3 _ _ _ PP3.out (by decide) (by decide))) P5)
            have QQ5 := Lib.hid (q4.eff A5)
            have BB5 := Lib.hid ((BB3.out.trans (e4.below BB3.out.size)).trans (A5.mono (Nat.le_trans BB3.out.size e4.size)))
            clear hW5 hp5 A5 P5 q4 e4 CP PP3 QQ3 BB3
            have CL : Hid (Calls Try.prog 31 #[.pointer (some ⟨g, 0, none⟩)] W5 fun r w' => r = .returned (.int .i64 0) ∧ w' = W5) := by
              have := lenA_E QQ5.out
              rw [show ((([] : List (En E28)).length : Nat) : Int) = 0 from by simp] at this
              exact this
            go_wp2_with fail
            rw [← HW5.out.1, ← HW5.out.2]
            with_reducible refine CL.out.mono ?_
            rintro r w5 ⟨rfl, rfl⟩
            clear CL
            have CP := Lib.hid (popNoneA_E QQ5.out)
            go_wp2_with fail
            with_reducible refine CP.out.mono ?_
            rintro r w6 ⟨rfl, q6, e6⟩
            obtain ⟨W7, hW7⟩ : ∃ W, W = w6.alloc (.cells #[.int .i64 0, .int .i64 0] 27) := ⟨_, rfl⟩
            obtain ⟨p7, hp7⟩ : ∃ p, p = w6.heap.size := ⟨_, rfl⟩
            have A7 : Below w6.heap.size w6 W7 := by rw [hW7]; exact (Below.refl _ _).alloc (Nat.le_refl _) _
            have P7 : W7.heap[p7]? = some (.cells #[.int .i64 0, .int .i64 0] 27 (0, 0)) := by rw [hW7, hp7]; exact heap_alloc_new w6 _
            have HW7 := Lib.hid (And.intro hW7 hp7)
            have x1 := below_heap A7 (e6.blk p3 _ _ _ PP5.out.1 (by decide) (by decide))
            have x2 := below_heap A7 (e6.blk p5 _ _ _ PP5.out.2 (by decide) (by decide))
            have BB7 := (BB5.out.trans (e6.below BB5.out.size)).trans (A7.mono (Nat.le_trans BB5.out.size e6.size))
            have NX : Hid (PeeksInv ks w W7 g (ks.length + 1) []) := ⟨q6.eff A7, BB7, by simp, by simp, fun e he => by simp at he⟩
            have y1 : W7.cell? ⟨p3, 0, none⟩ = some (.int .i64 0) := by simp only [World.cell?, x1]; rfl
            have y2 : W7.cell? ⟨p3, 1, none⟩ = some (.int .i64 0) := by simp only [World.cell?, x1]; rfl
            have y3 : W7.cell? ⟨p5, 0, none⟩ = some (.int .i64 0) := by simp only [World.cell?, x2]; rfl
            have y4 : W7.cell? ⟨p5, 1, none⟩ = some (.int .i64 0) := by simp only [World.cell?, x2]; rfl
            have y5 : W7.cell? ⟨p7, 0, none⟩ = some (.int .i64 0) := by simp only [World.cell?, P7]; rfl
            have y6 : W7.cell? ⟨p7, 1, none⟩ = some (.int .i64 0) := by simp only [World.cell?, P7]; rfl
            rw [hp7] at y5 y6
            rw [hW7] at y1 y2 y3 y4 y5 y6
            clear CP hW7 hp7 A7 q6 e6 QQ5 BB5 PP5 BB7 KK x1 x2 P7 HW3 HW5 
            go_wp2_with fail
            rw [← HW7.out.1]
            go_roundg (ks.length + 1 - (ks.length + 1))
            case measure => omega
            case rel => exact ⟨ks.length + 1, [], by go_num, by omega, by omega, NX⟩

        · have hlz : ¬ (i : Int) ≤ (ks.length : Int) := by omega
          go_wp2_with fail
          refine (awake28 _).mono ?_
          rintro r w3 ⟨rfl, hb3⟩
          have B3 := Lib.hid (HR.out.below.trans (hb3.mono HR.out.below.size))
          clear hb3
          go_wp2_with fail
          go_ret
          exact ⟨rfl, B3.out⟩
end Go.Proofs.Ytepfbhigeghjjaa.Q
