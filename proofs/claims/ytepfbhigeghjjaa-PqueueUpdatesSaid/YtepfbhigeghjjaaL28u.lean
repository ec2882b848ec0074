/- PqueueUpdates: the walk. -/
import Derived.Test.YtepfbhigeghjjaaL28a
import Derived.Test.YtepfbhigeghjjaaL28q
namespace Go.Proofs.Ytepfbhigeghjjaa.Q
open Go.RowKit Go.Proofs.YtepfbhigeghjjaaW.PrintLast
set_option linter.unusedVariables false
set_option linter.unusedSimpArgs false

/-! ### PqueueUpdates: the machine's side -/
/-- What holds behind i pops: the changed entry is there (f) or not. -/
structure UInv (ks : List Int) (k : Nat) (key : Int) (w wr : World) (g i : Nat) (f : Bool) (R : List (En E28)) : Prop where
  q : QA 90 92 lessE w.heap.size wr g (if f then ue key k ks.length :: R else R) (ks.length : Int) ((ks.length : Int) + 1)
  below : Below w.heap.size w wr
  ent : ∀ e ∈ R, ∃ j, j < ks.length ∧ j ≠ k ∧ e = ent ks j
  len : R.length + (if f then 1 else 0) = ks.length - i
  cnt : f = true → R.countP (fun e => decide (e.x.key ≤ key)) + i = bc ks k key ks.length
  past : f = false → bc ks k key ks.length < i
set_option maxHeartbeats 4000000 in
set_option maxRecDepth 100000 in
theorem updates_walk (A : Option Addr) (ks : List Int) (cap : Nat) (b key : Int) (w : World) (hA : ∀ j, j < ks.length → ∃ ad, A = some ad ∧ w.cell? (ad.add j) = some (.int .i64 (ks.getD j 0))) (hmx : ks.length ≤ 9223372036854775807)
    (hb : (Lit.int .u8 b).wf = true) (hkey : (Lit.int .i64 key).wf = true) :
    Calls Try.prog 4 #[.slice A ks.length cap, .int .u8 b, .int .i64 key] w fun r w' => r = .returned (.bool true) ∧ Below w.heap.size w w' := by
  have HA := Lib.hid hA
  clear hA
  have hb1 : 0 ≤ b ∧ b ≤ 255 := by
    have h := hb
    simp only [Lit.wf, Bool.and_eq_true, decide_eq_true_eq] at h
    rw [show IntKind.u8.min = 0 from rfl, show IntKind.u8.max = 255 from rfl] at h
    exact h
  clear hb hkey
  by_cases hbig : 50 < ks.length
  · have hb2 : (50 : Int) < (ks.length : Int) := by omega
    go_enter Try.func4, Try.ntmps4
    go_wp2_with fail
    refine (awake28 w).mono ?_
    rintro r w1 ⟨rfl, hb1⟩
    have HX := Lib.hid hb1
    clear hb1
    go_wp2_with fail
    go_ret
    exact ⟨rfl, HX.out⟩
  by_cases hz : ks = []
  · subst hz
    go_enter Try.func4, Try.ntmps4
    go_wp2_with fail
    refine (awake28 w).mono ?_
    rintro r w1 ⟨rfl, hb1⟩
    have HX := Lib.hid hb1
    clear hb1
    go_wp2_with fail
    go_ret
    exact ⟨rfl, HX.out⟩
  have hb2 : ¬ (50 : Int) < (ks.length : Int) := by omega
  have hn : ks.length ≤ 50 := by omega
  have hpos : 0 < ks.length := List.length_pos_iff.2 hz
  obtain ⟨k, hk⟩ : ∃ k : Nat, Int.tmod b (ks.length : Int) = (k : Int) := ⟨(Int.tmod b (ks.length : Int)).toNat, by rw [Int.toNat_of_nonneg (Int.tmod_nonneg _ hb1.1)]⟩
  have hkl : k < ks.length := by
    have := Int.tmod_lt_of_pos b (show (0 : Int) < (ks.length : Int) by omega)
    omega
  have hwb : IntKind.i64.wrap b = b := IntWalk.i64_in _ (by omega)
  have hwk : IntKind.i64.wrap (k : Int) = (k : Int) := IntWalk.i64_in _ (by omega)
  go_enter Try.func4, Try.ntmps4
  go_wp2_with fail
  refine (newA_E (B := w.heap.size) w (Nat.le_refl _)).mono ?_
  rintro r w1 ⟨g, rfl, q1, b1⟩
  have Q1 := Lib.hid q1
  have B1 := Lib.hid b1
  clear q1 b1
  go_wp2_with fail
  go_loopg [9] ks.length (fun m si wr => ∃ i : Nat, si = .int .i64 i ∧ i ≤ ks.length ∧ ks.length - i ≤ m ∧ Hid (QA 90 92 lessE w.heap.size wr g (entsL ks i) i i ∧ Below w.heap.size w wr))
  case atStart => exact ⟨0, rfl, by omega, by omega, Q1.out, B1.out⟩
  case round =>
    clear Q1 B1
    obtain ⟨i, rfl, hi, hm, HR⟩ := hrel
    by_cases hlt : i < ks.length
    · obtain ⟨ad, rfl, hc⟩ := HA.out i hlt
      obtain ⟨kv, hkv⟩ : ∃ x, ks.getD i 0 = x := ⟨_, rfl⟩
      have hc1 : wr.cell? (ad.add i) = some (.int .i64 kv) := by rw [← hkv]; exact (HR.out.2.cell (World.block_lt_of_cell? w _ hc)).trans hc
      have CP := Lib.hid (pushA_E HR.out.1 (fun e he => entsL_h he) (by omega) (by omega) (by omega) (by omega) (by rw [entsL_length]; omega) ⟨kv, i⟩)
      have HK := Lib.hid hkv
      clear hkv
      have hlz : (i : Int) < (ks.length : Int) := by omega
      clear hc
      go_wp2_with fail
      with_reducible refine CP.out.mono ?_
      rintro r w2 ⟨rfl, q2, e2⟩
      have Q2 := Lib.hid q2
      have B2 := Lib.hid (HR.out.2.trans (e2.below HR.out.2.size))
      clear q2 e2 hc1
      go_wp2_with fail
      go_roundg (ks.length - (i + 1))
      case measure => omega
      case rel => exact ⟨i + 1, by go_num, by omega, by omega, by rw [show entsL ks (i + 1) = ⟨⟨kv, i⟩, i, i⟩ :: entsL ks i from by rw [← HK.out]; rfl]; exact Q2.out, B2.out⟩
    · have hlz : ¬ (i : Int) < (ks.length : Int) := by omega
      obtain rfl : i = ks.length := by omega
      have CU := Lib.hid (updA_E HR.out.1 (ent ks k) (wo_perm hkl) (k : Int) rfl (by omega) (by omega) (by rw [entsL_length]; omega) ⟨key, k⟩)
      go_wp2_with fail
      with_reducible refine CU.out.mono ?_
      rintro r w2 ⟨rfl, q2, e2⟩
      have hh : ∀ x : Int, (x = (ks.length : Int) ∨ x = -1) → ∀ e ∈ ((⟨⟨key, k⟩, k, (ks.length : Int)⟩ : En E28) :: wo ks k ks.length), e.h ≠ x := fun x hx e he => by
        rcases List.mem_cons.1 he with rfl | he
        · show (k : Int) ≠ x
          omega
        · obtain ⟨j, hj, _, rfl⟩ := wo_mem he
          show (j : Int) ≠ x
          omega
      have B2 := Lib.hid (HR.out.2.trans (e2.below HR.out.2.size))
      have CU := Lib.hid (updNoneA_E q2 (ks.length : Int) (hh _ (.inl rfl)) ⟨0, 0⟩)
      have HH := Lib.hid hh
      clear q2 e2 HR hh
      go_wp2_with fail
      with_reducible refine CU.out.mono ?_
      rintro r w3 ⟨rfl, q3, e3⟩
      have B3 := Lib.hid (B2.out.trans (e3.below B2.out.size))
      have CU := Lib.hid (updNoneA_E q3 (-1) (HH.out _ (.inr rfl)) ⟨0, 0⟩)
      clear q3 e3 B2
      go_wp2_with fail
      with_reducible refine CU.out.mono ?_
      rintro r w4 ⟨rfl, q4, e4⟩
      have B4 := Lib.hid (B3.out.trans (e4.below B3.out.size))
      have CL : Hid (Calls Try.prog 31 #[.pointer (some ⟨g, 0, none⟩)] w4 fun r w' => r = .returned (.int .i64 ks.length) ∧ w' = w4) := by
        have := lenA_E q4
        rw [show (((⟨⟨key, k⟩, k, (ks.length : Int)⟩ : En E28) :: wo ks k ks.length).length) = ks.length from by have := (wo_perm (ks := ks) hkl).length_eq; rw [entsL_length] at this; simp only [List.length_cons] at this ⊢; omega] at this
        exact this
      have Q4 := Lib.hid q4
      clear q4 e4 B3 CU
      go_wp2_with fail
      with_reducible refine CL.out.mono ?_
      rintro r w5 ⟨rfl, rfl⟩
      clear CL
      go_wp2_with fail
      have H0 : Hid (UInv ks k key w w5 g 0 true (wo ks k ks.length)) := ⟨Q4.out, B4.out, fun e he => wo_mem he, by have := (wo_perm (ks := ks) hkl).length_eq; rw [entsL_length] at this; simp only [List.length_cons] at this; simp; omega, fun _ => by rw [wo_count]; rfl, (fun h => by cases h)⟩
      clear Q4 B4 HH
      go_loopg [10, 11] ks.length (fun m sc si wx => wx = w5 ∧ ∃ i : Nat, sc = .int .i64 (bc ks k key i) ∧ si = .int .i64 i ∧ i ≤ ks.length ∧ ks.length - i ≤ m)
      case atStart => exact ⟨rfl, 0, rfl, rfl, by omega, by omega⟩
      case round =>
        obtain ⟨rfl, i, rfl, rfl, hi, hm⟩ := hrel
        by_cases hlt : i < ks.length
        · obtain ⟨ad, rfl, hc⟩ := HA.out i hlt
          obtain ⟨kv, hkv⟩ : ∃ x, ks.getD i 0 = x := ⟨_, rfl⟩
          have hc1 : wr.cell? (ad.add i) = some (.int .i64 kv) := by rw [← hkv]; exact (H0.out.below.cell (World.block_lt_of_cell? w _ hc)).trans hc
          obtain ⟨c, hcv⟩ : ∃ c, bc ks k key i = c := ⟨_, rfl⟩
          have hcl : c ≤ i := by rw [← hcv]; exact bc_le ks k key i
          have hcn : bc ks k key (i + 1) = c + (if i ≠ k ∧ kv ≤ key then 1 else 0) := by rw [← hcv, ← hkv]; rfl
          have hlz : (i : Int) < (ks.length : Int) := by omega
          have HK := Lib.hid hcn
          rw [hcv]
          clear hkv hc hcn hcv
          by_cases hik : i = k
          · have hk2 : ((i : Int) == (k : Int)) = true := beq_iff_eq.2 (by omega)
            go_wp2_with fail
            go_roundg (ks.length - (i + 1))
            case measure => omega
            case rel => exact ⟨rfl, i + 1, by rw [HK.out, if_neg (by omega)]; rfl, by go_num, by omega, by omega⟩
          · have hk2 : ((i : Int) == (k : Int)) = false := beq_eq_false_iff_ne.2 (by omega)
            by_cases hle : kv ≤ key
            · go_wp2_with fail
              go_roundg (ks.length - (i + 1))
              case measure => omega
              case rel => exact ⟨rfl, i + 1, by rw [HK.out, if_pos ⟨hik, hle⟩]; go_num, by go_num, by omega, by omega⟩
            · go_wp2_with fail
              go_roundg (ks.length - (i + 1))
              case measure => omega
              case rel => exact ⟨rfl, i + 1, by rw [HK.out, if_neg (by omega)]; rfl, by go_num, by omega, by omega⟩
        · have hlz : ¬ (i : Int) < (ks.length : Int) := by omega
          obtain rfl : i = ks.length := by omega
          go_wp2_with fail
          clear HA hi hm hlt hlz
          obtain ⟨c, hcv⟩ : ∃ c, bc ks k key ks.length = c := ⟨_, rfl⟩
          rw [hcv]
          have hcl : c ≤ ks.length := by rw [← hcv]; exact bc_le ks k key _
          have HV := Lib.hid hcv
          clear hcv
          go_loopg [12] ks.length (fun m si wx => ∃ (i : Nat) (f : Bool) (R : List (En E28)), si = .int .i64 i ∧ i ≤ ks.length ∧ ks.length - i ≤ m ∧ Hid (UInv ks k key w wx g i f R))
          case atStart => exact ⟨0, true, _, rfl, by omega, by omega, H0⟩
          case round =>
            clear H0
            obtain ⟨i, f, R, rfl, hi, hm, HR⟩ := hrel
            by_cases hlt : i < ks.length
            · skip
              have hlz : (i : Int) < (ks.length : Int) := by omega
              cases f
              · have hq : QA 90 92 lessE w.heap.size wr g R (ks.length : Int) ((ks.length : Int) + 1) := HR.out.q
                have CP := Lib.hid (popA_E hq (by intro h; have h1 := HR.out.len; rw [h] at h1; simp at h1; omega) (by have := HR.out.len; simp at this; omega))
                clear hq
                go_wp2_with fail
                with_reducible refine CP.out.mono ?_
                rintro r w2 ⟨m', R2, rfl, hp, hmin, q2, e2⟩
                clear CP
                obtain ⟨j, hj, hjk, rfl⟩ := HR.out.ent m' (hp.symm.subset (List.mem_cons_self))
                obtain ⟨kv, hkv⟩ : ∃ x, ks.getD j 0 = x := ⟨_, rfl⟩
                rw [show (Cells.cs (ent ks j).x).toArray = #[.int .i64 kv, .int .i64 j] from by rw [← hkv]; rfl]
                obtain ⟨W3, hW3⟩ : ∃ W, W = w2.alloc (.cells #[.int .i64 kv, .int .i64 j] 27) := ⟨_, rfl⟩
                obtain ⟨p3, hp3⟩ : ∃ p, p = w2.heap.size := ⟨_, rfl⟩
                have A3 : Below w2.heap.size w2 W3 := by rw [hW3]; exact (Below.refl _ _).alloc (Nat.le_refl _) _
                have P3 : W3.heap[p3]? = some (.cells #[.int .i64 kv, .int .i64 j] 27 (0, 0)) := by rw [hW3, hp3]; exact heap_alloc_new w2 _
                have y1 : W3.cell? ⟨p3, 0, none⟩ = some (.int .i64 kv) := by simp only [World.cell?, P3]; rfl
                have y2 : W3.cell? ⟨p3, 1, none⟩ = some (.int .i64 j) := by simp only [World.cell?, P3]; rfl
                have BB3 := Lib.hid ((HR.out.below.trans (e2.below HR.out.below.size)).trans (A3.mono (Nat.le_trans HR.out.below.size e2.size)))
                have NX : Hid (UInv ks k key w W3 g (i + 1) false R2) := ⟨q2.eff A3, BB3.out, fun e he => HR.out.ent e (hp.symm.subset (List.mem_cons_of_mem _ he)), by have h1 := HR.out.len; have h2 := hp.length_eq; simp only [List.length_cons] at h1 h2 ⊢; simp at h1 ⊢; omega, (fun h => by cases h), fun _ => by have := HR.out.past rfl; omega⟩
                rw [hW3] at NX
                rw [hW3, hp3] at y1 y2
                have hk2 : ((j : Int) == (k : Int)) = false := beq_eq_false_iff_ne.2 (by omega)
                have hk3 : ((i : Int) == (c : Int)) = false := beq_eq_false_iff_ne.2 (by have h1 := HR.out.past rfl; rw [HV.out] at h1; omega)
                clear hW3 hp3 A3 P3 BB3 q2 e2 hp hmin hkv 
                go_wp2_with fail
                go_roundg (ks.length - (i + 1))
                case measure => omega
                case rel => exact ⟨i + 1, false, _, by go_num, by omega, by omega, NX⟩

              · have hq : QA 90 92 lessE w.heap.size wr g (ue key k ks.length :: R) (ks.length : Int) ((ks.length : Int) + 1) := HR.out.q
                have CP := Lib.hid (popA_E hq (by simp) (by have := HR.out.len; simp at this ⊢; omega))
                clear hq
                go_wp2_with fail
                with_reducible refine CP.out.mono ?_
                rintro r w2 ⟨m', R2, rfl, hp, hmin, q2, e2⟩
                clear CP
                rcases upd_pop HR.out.ent hp hmin with ⟨rfl, hpR, hc0⟩ | ⟨j, R3, hj, hjk, rfl, hp2, hpR, hle⟩
                · skip
                  rw [show (Cells.cs (ue key k ks.length).x).toArray = #[.int .i64 key, .int .i64 k] from rfl]
                  obtain ⟨kv, hkv⟩ : ∃ x, key = x := ⟨_, rfl⟩
                  obtain ⟨W3, hW3⟩ : ∃ W, W = w2.alloc (.cells #[.int .i64 key, .int .i64 k] 27) := ⟨_, rfl⟩
                  obtain ⟨p3, hp3⟩ : ∃ p, p = w2.heap.size := ⟨_, rfl⟩
                  have A3 : Below w2.heap.size w2 W3 := by rw [hW3]; exact (Below.refl _ _).alloc (Nat.le_refl _) _
                  have P3 : W3.heap[p3]? = some (.cells #[.int .i64 key, .int .i64 k] 27 (0, 0)) := by rw [hW3, hp3]; exact heap_alloc_new w2 _
                  have y1 : W3.cell? ⟨p3, 0, none⟩ = some (.int .i64 key) := by simp only [World.cell?, P3]; rfl
                  have y2 : W3.cell? ⟨p3, 1, none⟩ = some (.int .i64 k) := by simp only [World.cell?, P3]; rfl
                  have BB3 := Lib.hid ((HR.out.below.trans (e2.below HR.out.below.size)).trans (A3.mono (Nat.le_trans HR.out.below.size e2.size)))
                  have hic : i = c := by have h1 := HR.out.cnt rfl; rw [hc0, HV.out] at h1; omega
                  have hk3 : ((i : Int) == (c : Int)) = true := beq_iff_eq.2 (by omega)
                  have CU := Lib.hid (updNoneA_E (q2.eff A3) (k : Int) (fun e he => by
                    obtain ⟨j, hj, hjk, rfl⟩ := HR.out.ent e (hpR.subset he)
                    show ¬ (j : Int) = (k : Int)
                    omega) ⟨key, k⟩)
                  have HW3 := Lib.hid (And.intro hW3 hp3)
                  have KR := Lib.hid hpR
                  rw [hW3, hp3] at y1 y2
                  clear hW3 hp3 A3 P3 q2 e2 hp hmin hkv hc0 hpR
                  go_wp2_with fail
                  rw [← HW3.out.1]
                  with_reducible refine CU.out.mono ?_
                  rintro r w4 ⟨rfl, q4, e4⟩
                  have NX : Hid (UInv ks k key w w4 g (i + 1) false R) := ⟨q4.perm KR.out, BB3.out.trans (e4.below BB3.out.size), HR.out.ent, by have h1 := HR.out.len; simp at h1 ⊢; omega, (fun h => by cases h), fun _ => by rw [HV.out]; omega⟩
                  clear q4 e4 CU BB3 HW3 y1 y2
                  go_wp2_with fail
                  go_roundg (ks.length - (i + 1))
                  case measure => omega
                  case rel => exact ⟨i + 1, false, R, by go_num, by omega, by omega, NX⟩

                · skip
                  obtain ⟨kv, hkv⟩ : ∃ x, ks.getD j 0 = x := ⟨_, rfl⟩
                  rw [show (Cells.cs (ent ks j).x).toArray = #[.int .i64 kv, .int .i64 j] from by rw [← hkv]; rfl]
                  obtain ⟨W3, hW3⟩ : ∃ W, W = w2.alloc (.cells #[.int .i64 kv, .int .i64 j] 27) := ⟨_, rfl⟩
                  obtain ⟨p3, hp3⟩ : ∃ p, p = w2.heap.size := ⟨_, rfl⟩
                  have A3 : Below w2.heap.size w2 W3 := by rw [hW3]; exact (Below.refl _ _).alloc (Nat.le_refl _) _
                  have P3 : W3.heap[p3]? = some (.cells #[.int .i64 kv, .int .i64 j] 27 (0, 0)) := by rw [hW3, hp3]; exact heap_alloc_new w2 _
                  have y1 : W3.cell? ⟨p3, 0, none⟩ = some (.int .i64 kv) := by simp only [World.cell?, P3]; rfl
                  have y2 : W3.cell? ⟨p3, 1, none⟩ = some (.int .i64 j) := by simp only [World.cell?, P3]; rfl
                  have BB3 := Lib.hid ((HR.out.below.trans (e2.below HR.out.below.size)).trans (A3.mono (Nat.le_trans HR.out.below.size e2.size)))
                  have NX : Hid (UInv ks k key w W3 g (i + 1) true R3) := ⟨(q2.eff A3).perm hp2, BB3.out, fun e he => HR.out.ent e (hpR.symm.subset (List.mem_cons_of_mem _ he)), by have h1 := HR.out.len; have h2 := hpR.length_eq; simp only [List.length_cons, if_pos] at h1 h2 ⊢; omega, fun _ => by have h1 := HR.out.cnt rfl; rw [hpR.countP_eq, List.countP_cons, if_pos (show decide ((ent ks j).x.key ≤ key) = true from decide_eq_true hle)] at h1; omega, (fun h => by cases h)⟩
                  rw [hW3] at NX
                  rw [hW3, hp3] at y1 y2
                  have hk2 : ((j : Int) == (k : Int)) = false := beq_eq_false_iff_ne.2 (by omega)
                  have hk3 : ((i : Int) == (c : Int)) = false := beq_eq_false_iff_ne.2 (by have h1 := HR.out.cnt rfl; rw [hpR.countP_eq, List.countP_cons, if_pos (show decide ((ent ks j).x.key ≤ key) = true from decide_eq_true hle), HV.out] at h1; omega)
                  clear hW3 hp3 A3 P3 BB3 q2 e2 hp hmin hkv hp2 hpR hle
                  go_wp2_with fail
                  go_roundg (ks.length - (i + 1))
                  case measure => omega
                  case rel => exact ⟨i + 1, true, _, by go_num, by omega, by omega, NX⟩

            · have hlz : ¬ (i : Int) < (ks.length : Int) := by omega
              obtain rfl : i = ks.length := by omega
              have hS : R = [] ∧ f = false := by
                have h1 := HR.out.len
                cases f
                · simp at h1; exact ⟨h1, rfl⟩
                · simp at h1
              obtain ⟨rfl, rfl⟩ := hS
              go_wp2_with fail
              refine (awake28 _).mono ?_
              rintro r w3 ⟨rfl, hb3⟩
              have CL : Hid (Calls Try.prog 31 #[.pointer (some ⟨g, 0, none⟩)] w3 fun r w' => r = .returned (.int .i64 0) ∧ w' = w3) := by
                have := lenA_E (S := []) (QA.eff (S := []) HR.out.q hb3)
                exact this
              have B3 := Lib.hid (HR.out.below.trans (hb3.mono HR.out.below.size))
              clear hb3
              go_wp2_with fail
              with_reducible refine CL.out.mono ?_
              rintro r w4 ⟨rfl, rfl⟩
              go_wp2_with fail
              go_ret
              exact ⟨rfl, B3.out⟩
end Go.Proofs.Ytepfbhigeghjjaa.Q
