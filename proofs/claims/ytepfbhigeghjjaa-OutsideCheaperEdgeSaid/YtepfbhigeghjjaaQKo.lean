/- The queue at K.K3: Pop. -/
import Derived.Test.YtepfbhigeghjjaaQKs
import Derived.Test.YtepfbhigeghjjaaQKd
namespace Go.Proofs.Ytepfbhigeghjjaa.Q
open Go.RowKit Go.Proofs.YtepfbhigeghjjaaW.PrintLast
set_option linter.unusedVariables false
set_option linter.unusedSimpArgs false

/-! ### Pop -/
set_option maxHeartbeats 2000000 in
set_option maxRecDepth 100000 in
theorem popNone_K {B : Nat} {w : World} {g mb : Nat} {hv : Value} {nx ck : Int} (hq : IsQ 131 135 lessK B w g hv mb ([] : List (En K.K3)) nx ck) :
    Calls Try.prog 80 #[.pointer (some ⟨g, 0, none⟩)] w fun r w' => r = .returned (.tuple #[.agg #[.int .i64 0, .int .i64 0, .int .i64 0], .bool false]) ∧ Below w.heap.size w w' := by
  obtain ⟨A, cap, hvA⟩ := hq.lens
  have c0 : w.cell? ⟨g, 1, none⟩ = some (.slice A 0 cap) := by rw [blk_cell1 hq.blk, hvA]; rfl
  have c1 : (w.alloc (.cells #[.int .i64 0, .int .i64 0, .int .i64 0] 110)).cell? ⟨g, 1, none⟩ = some (.slice A 0 cap) := (eff_alloc w _).cell c0 (fun h => h)
  clear hq hvA c0
  go_enter Try.func80, Try.ntmps80
  go_wp2
  refine bodyPost_ret (res_ct rfl _ _ w.heap.size [.int .i64 0, .int .i64 0, .int .i64 0] (by rfl) ?_ Try.underlying110 rfl (by kernel_rfl)) rfl ?_
  · refine box_range (L := [.int .i64 0, .int .i64 0, .int .i64 0]) (t := 110) ?_ 0 _ (fun j v h => by rw [Nat.zero_add]; exact h)
    exact (two_alloc w _ _).1
  · exact ⟨rfl, ((Below.refl _ _).alloc (Nat.le_refl _) _).alloc (by simp) _⟩
set_option maxHeartbeats 2000000 in
set_option maxRecDepth 100000 in
theorem pop_K {B : Nat} {w : World} {g mb : Nat} {hv : Value} {es : List (En K.K3)} {nx ck : Int} (hq : IsQ 131 135 lessK B w g hv mb es nx ck) (hh : Heap es) (e : En K.K3) (he : es[0]? = some e) (hlen : es.length ≤ 1000000000) :
    Calls Try.prog 80 #[.pointer (some ⟨g, 0, none⟩)] w (PopPost 131 135 lessK B w g hv mb es nx ck e) := by
  have hpos : 0 < es.length := (List.getElem?_eq_some_iff.1 he).1
  obtain ⟨m, hm⟩ : ∃ m, es.length = m + 1 := ⟨es.length - 1, by omega⟩
  obtain ⟨hb, cap, cur, rfl, hB, hh2, hcap, hmx, hs, hl⟩ := hq.row.form hpos
  have bl : Hid (hb < w.heap.size) := (Array.getElem?_eq_some_iff.1 hh2).1
  have gl : Hid (g < w.heap.size) := (Array.getElem?_eq_some_iff.1 hq.blk).1
  clear hh2 hs hl cur
  obtain ⟨el, hel⟩ : ∃ x, es[m]? = some x := ⟨_, List.getElem?_eq_getElem (by omega)⟩
  -- the result's box
  obtain ⟨W1, hW1⟩ : ∃ W, W = w.alloc (.cells #[.int .i64 0, .int .i64 0, .int .i64 0] 110) := ⟨_, rfl⟩
  obtain ⟨rb, hrb⟩ : ∃ b, b = w.heap.size := ⟨_, rfl⟩
  have E1 : Hid (Eff (fun _ => False) w W1) := by rw [hW1]; exact eff_alloc w _
  have Z1 : Hid (W1.heap.size = w.heap.size + 1) := by show _ = _; rw [hW1]; simp
  have RB1 : Hid (W1.heap[rb]? = some (.cells #[.int .i64 0, .int .i64 0, .int .i64 0] 110 (0, 0))) := by show _ = _; rw [hrb, hW1]; exact heap_alloc_new w _
  have Q1 : Hid (IsQ 131 135 lessK B W1 g (.slice (some ⟨hb, 0, none⟩) es.length cap) mb es nx ck) := hq.eff E1.out (fun _ _ h => h)
  have c1 : W1.cell? ⟨g, 1, none⟩ = some (.slice (some ⟨hb, 0, none⟩) es.length cap) := blk_cell1 Q1.out.blk
  have r0 : W1.rangeAt hb 0 (enc e) := by have := Q1.out.row.range 0 e he; rwa [Nat.zero_mul] at this
  have RX := Lib.hid hrb
  have HM := Lib.hid hm
  have HE0 := Lib.hid he
  have HEL := Lib.hid hel
  have HH := Lib.hid hh
  have HQ := Lib.hid hq
  have hz : ((es.length : Int) == 0) = false := beq_eq_false_iff_ne.2 (by omega)
  have c0 : (w.alloc (.cells #[.int .i64 0, .int .i64 0, .int .i64 0] 110)).cell? ⟨g, 1, none⟩ = some (.slice (some ⟨hb, 0, none⟩) es.length cap) := by rw [← hW1]; exact c1
  have hpz : (0 : Int) < (es.length : Int) := by omega
  have hwl : IntKind.i64.wrap ((es.length : Int) - 1) = (m : Int) := by rw [IntWalk.i64_in _ (by omega)]; omega
  have hcm : (m : Int) ≤ (cap : Int) := by omega
  have hcm0 : (0 : Int) ≤ (m : Int) := by omega
  have HCAP := Lib.hid hcap
  clear hq hh he hel hm hrb hcap
  go_enter Try.func80, Try.ntmps80
  go_wp2_with fail
  rw [← hW1, ← RX.out]
  have gp1 : Hid (¬ g = W1.heap.size) := fun h => by have h1 := gl.out; have h2 := Z1.out; omega
  have gp2 : Hid (¬ hb = W1.heap.size) := fun h => by have h1 := bl.out; have h2 := Z1.out; omega
  clear hW1 c0
  refine start_ (n := 15) (S := fun w' => w'.cell? ⟨g, 1, none⟩ = some (.slice (some ⟨hb, 0, none⟩) es.length cap) ∧ w'.rangeAt hb 0 (enc e)) (ds := []) #[false, false, false, false, false, false, false, false, false, false, false, false, false, false, false] (by kernel_rfl) rfl rfl ⟨c1, r0⟩ (fun hHeld => ?_)
  refine pure_ (i := 0) (N := some 15) (v := ?_) (a' := ?_) #[true, false, false, false, false, false, false, false, false, false, false, false, false, false, false] rfl rfl (by kernel_rfl) (fun _ _ _ h => h) (Or.inl ⟨by rfl, ?_⟩) ?_ ?_
  rotate_left
  · intro w'
    go_simp
    with_reducible rfl
  rotate_left
  · simp only [Act.put, List.setIfInBounds_toArray, List.set_cons_zero, List.set_cons_succ, i64_w, i32_w]
    rfl
  refine pure_ (i := 1) (N := some 16) (v := ?_) (a' := ?_) #[true, true, false, false, false, false, false, false, false, false, false, false, false, false, false] rfl rfl (by kernel_rfl) (fun _ _ _ h => h) (Or.inl ⟨by rfl, ?_⟩) ?_ ?_
  rotate_left
  · intro w'
    go_simp
    with_reducible rfl
  rotate_left
  · simp only [Act.put, List.setIfInBounds_toArray, List.set_cons_zero, List.set_cons_succ, i64_w, i32_w]
    rfl
  refine pure_ (i := 2) (N := some 17) (v := ?_) (a' := ?_) #[true, true, true, false, false, false, false, false, false, false, false, false, false, false, false] rfl rfl (by kernel_rfl) (fun _ _ _ h => h) (Or.inl ⟨by rfl, ?_⟩) ?_ ?_
  rotate_left
  · intro w'
    go_simp
    with_reducible rfl
  rotate_left
  · simp only [Act.put, List.setIfInBounds_toArray, List.set_cons_zero, List.set_cons_succ, i64_w, i32_w]
    rfl
  refine pure_ (i := 6) (N := some 21) (v := ?_) (a' := ?_) #[true, true, true, false, false, false, true, false, false, false, false, false, false, false, false] rfl rfl (by kernel_rfl) (fun _ _ _ h => h) (Or.inl ⟨by rfl, ?_⟩) ?_ ?_
  rotate_left
  · intro w'
    go_simp
    with_reducible rfl
  rotate_left
  · simp only [Act.put, List.setIfInBounds_toArray, List.set_cons_zero, List.set_cons_succ, i64_w, i32_w]
    rfl
  refine pure_ (i := 7) (N := some 22) (v := ?_) (a' := ?_) #[true, true, true, false, false, false, true, true, false, false, false, false, false, false, false] rfl rfl (by kernel_rfl) (fun _ _ _ h => h) (Or.inl ⟨by rfl, ?_⟩) ?_ ?_
  rotate_left
  · intro w'
    go_simp
    with_reducible rfl
  rotate_left
  · simp only [Act.put, List.setIfInBounds_toArray, List.set_cons_zero, List.set_cons_succ, i64_w, i32_w]
    rfl
  refine pure_ (i := 8) (N := some 23) (v := ?_) (a' := ?_) #[true, true, true, false, false, false, true, true, true, false, false, false, false, false, false] rfl rfl (by kernel_rfl) (fun _ _ _ h => h) (Or.inl ⟨by rfl, ?_⟩) ?_ ?_
  rotate_left
  · intro w'
    go_simp
    with_reducible rfl
  rotate_left
  · simp only [Act.put, List.setIfInBounds_toArray, List.set_cons_zero, List.set_cons_succ, i64_w, i32_w]
    rfl
  refine take_ (i := 3) (N := some 18) (v := ?_) (a' := ?_) #[true, true, true, true, false, false, true, true, true, false, false, false, false, false, false] rfl rfl (by kernel_rfl) (fun _ _ _ h => h) (Or.inl ⟨by rfl, ?_⟩) hHeld ?_ ?_
  rotate_left
  · rintro w' ⟨s0, s1⟩
    go_simp
    with_reducible rfl
  rotate_left
  · simp only [Act.put, List.setIfInBounds_toArray, List.set_cons_zero, List.set_cons_succ, i64_w, i32_w]
    rfl
  refine pure_ (i := 4) (N := some 19) (v := ?_) (a' := ?_) #[true, true, true, true, true, false, true, true, true, false, false, false, false, false, false] rfl rfl (by kernel_rfl) (fun _ _ _ h => h) (Or.inl ⟨by rfl, ?_⟩) ?_ ?_
  rotate_left
  · intro w'
    go_simp
    with_reducible rfl
  rotate_left
  · simp only [Act.put, List.setIfInBounds_toArray, List.set_cons_zero, List.set_cons_succ, i64_w, i32_w]
    rfl
  refine take_ (i := 5) (N := some 20) (a' := ?_) #[true, true, true, true, true, true, true, true, true, false, false, false, false, false, false] rfl rfl (by kernel_rfl) (fun _ _ _ h => h) (yieldsIf_load_mid (by rfl) 135 _ rfl hb 0 (by rfl) (enc e) _ (fun w' h => h.2) Try.underlying135 rfl (by kernel_rfl)) hHeld ?_ ?_
  rotate_left
  · simp only [Act.put, List.setIfInBounds_toArray, List.set_cons_zero, List.set_cons_succ, i64_w, i32_w]
    rfl
  refine take_ (i := 9) (N := some 24) (v := ?_) (a' := ?_) #[true, true, true, true, true, true, true, true, true, true, false, false, false, false, false] rfl rfl (by kernel_rfl) (fun _ _ _ h => h) (Or.inl ⟨by rfl, ?_⟩) hHeld ?_ ?_
  rotate_left
  · rintro w' ⟨s0, s1⟩
    go_simp
    with_reducible rfl
  rotate_left
  · simp only [Act.put, List.setIfInBounds_toArray, List.set_cons_zero, List.set_cons_succ, i64_w, i32_w]
    rfl
  refine pure_ (i := 10) (N := some 25) (v := ?_) (a' := ?_) #[true, true, true, true, true, true, true, true, true, true, true, false, false, false, false] rfl rfl (by kernel_rfl) (fun _ _ _ h => h) (Or.inl ⟨by rfl, ?_⟩) ?_ ?_
  rotate_left
  · intro w'
    go_simp
    with_reducible rfl
  rotate_left
  · simp only [Act.put, List.setIfInBounds_toArray, List.set_cons_zero, List.set_cons_succ, i64_w, i32_w]
    rfl
  refine pure_ (i := 11) (N := some 26) (v := ?_) (a' := ?_) #[true, true, true, true, true, true, true, true, true, true, true, true, false, false, false] rfl rfl (by kernel_rfl) (fun _ _ _ h => h) (Or.inl ⟨by rfl, ?_⟩) ?_ ?_
  rotate_left
  · intro w'
    go_simp
    with_reducible rfl
  rotate_left
  · simp only [Act.put, List.setIfInBounds_toArray, List.set_cons_zero, List.set_cons_succ, i64_w, i32_w]
    rfl
  refine one_ (i := 12) (N := some 4) #[true, true, true, true, true, true, true, true, true, true, true, true, true, false, false] rfl rfl (by kernel_rfl) (by decide) (fun K hK => ?_)
  refine value_ (w1 := ?_) (v := ?_) (by rfl) rfl ?_ ?_
  rotate_left 2
  · go_simp
    constructor
    · rfl
    · rfl
  refine hK.out _ _ ⟨((eff_alloc _ _).cell hHeld.1 (fun h => h)), (rangeAt_eff hHeld.2 (eff_alloc _ _) (fun h => h))⟩ (fun hHeld => ?_)
  clear hK K
  refine norm_ (a' := ?_) ?_ ?_
  rotate_left
  · show Act.put _ (some 4) _ = _
    simp only [Act.put, List.setIfInBounds_toArray, List.set_cons_zero, List.set_cons_succ, i64_w, i32_w]
    rfl
  refine one_ (i := 13) (N := none) #[true, true, true, true, true, true, true, true, true, true, true, true, true, true, false] rfl rfl (by kernel_rfl) (by decide) (fun K hK => ?_)
  refine skip_ (w1 := (W1.drew.alloc (.cells #[.int .i64 0, .int .i64 0, .int .i64 0, .int .i64 0, .int .i64 0] 135)).setCells W1.heap.size 0 (enc e)) (by rfl) rfl (run_u (run_storeAt_mid _ W1.heap.size 0 135 (enc e).toArray (box_there (heap_alloc_new W1.drew _) rfl) (by kernel_rfl) (enc_all e))) ?_
  refine hK.out _ _ ⟨((eff_setCells W1.heap.size (enc e) 0 _).1.cell hHeld.1 gp1.out), (rangeAt_eff hHeld.2 (eff_setCells W1.heap.size (enc e) 0 _).1 gp2.out)⟩ (fun hHeld => ?_)
  clear hK K
  refine pure_ (i := 14) (N := some 5) (v := ?_) (a' := ?_) #[true, true, true, true, true, true, true, true, true, true, true, true, true, true, true] rfl rfl (by kernel_rfl) (fun _ _ _ h => h) (Or.inl ⟨by rfl, ?_⟩) ?_ ?_
  rotate_left
  · intro w'
    go_simp
    with_reducible rfl
  rotate_left
  · simp only [Act.put, List.setIfInBounds_toArray, List.set_cons_zero, List.set_cons_succ, i64_w, i32_w]
    rfl
  refine done_ (by kernel_rfl) ?_
  obtain ⟨p, hp⟩ : ∃ p, p = W1.heap.size := ⟨_, rfl⟩
  obtain ⟨W3, hW3⟩ : ∃ W, W = (W1.drew.alloc (.cells #[.int .i64 0, .int .i64 0, .int .i64 0, .int .i64 0, .int .i64 0] 135)).setCells W1.heap.size 0 (enc e) := ⟨_, rfl⟩
  rw [← hW3, ← hp]
  have PB3 : Hid (W3.heap[p]? = some (.cells (enc e).toArray 135 (0, 0))) := by
    show _ = _
    rw [hp, hW3]
    exact box_set (heap_alloc_new W1.drew _) rfl
  have E3 : Hid (Eff (fun _ => False) W1 W3) := by
    rw [hW3]
    exact ((Eff.refl _ W1).drew.alloc _).trans (eff_setCells W1.heap.size (enc e) 0 _).1 (fun k hk => .inr (by rw [hk]; exact Nat.le_refl _))
  have PP : Hid (w.heap.size < p) := by show _ < _; rw [hp, Z1.out]; exact Nat.lt_succ_self _
  have Q3 : Hid (IsQ 131 135 lessK B W3 g (.slice (some ⟨hb, 0, none⟩) es.length cap) mb es nx ck) := Q1.out.eff E3.out (fun _ _ h => h)
  have CS : Hid (Calls Try.prog 95 #[.pointer (some ⟨g, 0, none⟩), .int .i64 0, .int .i64 m] W3 fun e w' => e = .returned (.tuple #[]) ∧ IsQ 131 135 lessK B w' g (.slice (some ⟨hb, 0, none⟩) es.length cap) mb (swp es 0 m) nx ck ∧ Eff (fun k => some k = (Value.slice (some ⟨hb, 0, none⟩) es.length cap).ownBlock ∨ k = mb) W3 w') :=
    swap_K Q3.out 0 m e el HE0.out HEL.out hlen
  have RB3 : Hid (W3.heap[rb]? = some (.cells #[.int .i64 0, .int .i64 0, .int .i64 0] 110 (0, 0))) := E3.out.heap RB1.out (fun h => h)
  clear c1 r0 hp hW3 hwl hz
  go_wp2_with fail
  refine CS.out.mono ?_
  rintro r w4 ⟨rfl, hq4, he4⟩
  have nb4 : ∀ k, (some k = (Value.slice (some ⟨hb, 0, none⟩) es.length cap).ownBlock ∨ k = mb) → k < w.heap.size := by
    rintro k (h | h)
    · have : k = hb := by simpa [Value.ownBlock] using h
      rw [this]; exact bl.out
    · rw [h]
      obtain ⟨l, clk, hl, _⟩ := HQ.out.map
      exact (Array.getElem?_eq_some_iff.1 hl.1).1
  have Q4 := Lib.hid hq4
  have E4 := Lib.hid he4
  have PB4 : Hid (w4.heap[p]? = some (.cells (enc e).toArray 135 (0, 0))) := he4.heap PB3.out (fun h => by have h1 := nb4 p h; have h2 := PP.out; omega)
  have RB4 : Hid (w4.heap[rb]? = some (.cells #[.int .i64 0, .int .i64 0, .int .i64 0] 110 (0, 0))) := he4.heap RB3.out (fun h => by have h1 := nb4 rb h; have h2 := RX.out; omega)
  have d0 : w4.cell? ⟨g, 1, none⟩ = some (.slice (some ⟨hb, 0, none⟩) es.length cap) := blk_cell1 hq4.blk
  have f0 : w4.frozen? ⟨g, 1, none⟩ = false := frozen_blk hq4.blk 1
  have NB4 := Lib.hid nb4
  have hml : (m : Int) ≤ (es.length : Int) := by have := HM.out; omega
  clear hq4 he4 nb4
  go_wp2_with fail
  obtain ⟨W5, hW5⟩ : ∃ W, W = w4.setCell ⟨g, 1, none⟩ (.slice (some ⟨hb, 0, none⟩) m cap) := ⟨_, rfl⟩
  rw [← hW5]
  have G5 : Hid (W5.heap[g]? = some (.cells #[lessK, .slice (some ⟨hb, 0, none⟩) m cap, .map (some mb), .int .i64 nx, .int .i64 ck] 131 (0, 0))) := by
    show _ = _
    rw [hW5]
    exact set_cell Q4.out.blk 1 _
  have E5 : Hid (Eff (fun k => k = g) w4 W5) := by rw [hW5]; exact eff_setCell w4 g 1 _
  have ngb : ¬ hb = g := fun h => Row.ne Q4.out.row Q4.out.blk (by decide) (by rw [h]; rfl)
  have ngp : ¬ p = g := by have h1 := PP.out; have h2 := gl.out; omega
  have ngr : ¬ rb = g := by have h1 := RX.out; have h2 := gl.out; omega
  have nmg : ¬ mb = g := fun h => by
    obtain ⟨l, clk, hl, _⟩ := Q4.out.map
    have := Q4.out.blk
    rw [← h, hl.1] at this
    cases this
  have R5 : Hid (Row 135 B W5 (.slice (some ⟨hb, 0, none⟩) m cap) ((swp es 0 m).take m)) := by
    have h1 := Row.take Q4.out.row m (by rw [swp_length, HM.out]; omega) (by rw [swp_length, HM.out]; omega)
    exact h1.eff E5.out (fun k hk h => ngb (by have : hb = k := by simpa [Value.ownBlock] using hk
                                               omega))
  obtain ⟨l, clk, hml, hf⟩ := Q4.out.map.eff E5.out nmg
  have PB5 : Hid (W5.heap[p]? = some (.cells (enc e).toArray 135 (0, 0))) := E5.out.heap PB4.out ngp
  have RB5 : Hid (W5.heap[rb]? = some (.cells #[.int .i64 0, .int .i64 0, .int .i64 0] 110 (0, 0))) := E5.out.heap RB4.out ngr
  obtain ⟨w7, l7, hr7, he7, hz7, hm7, hf7⟩ := run_deleteL (P := Try.prog) (W := W5.drew) Try.underlying87 Try.underlying3 hml e.h #[87, 3] rfl 0
  have mlt : mb < w.heap.size := NB4.out mb (.inr rfl)
  have nmp : ¬ p = mb := by have h1 := PP.out; omega
  have nmr : ¬ rb = mb := by have h1 := RX.out; omega
  have nmb : ¬ hb = mb := fun h => Row.neM Q4.out.row Q4.out.map (by rw [h]; rfl)
  have G7 : Hid (w7.heap[g]? = some (.cells #[lessK, .slice (some ⟨hb, 0, none⟩) m cap, .map (some mb), .int .i64 nx, .int .i64 ck] 131 (0, 0))) := he7.heap (show W5.drew.heap[g]? = _ from G5.out) (fun h => nmg h.symm)
  have PB7 : Hid (w7.heap[p]? = some (.cells (enc e).toArray 135 (0, 0))) := he7.heap (show W5.drew.heap[p]? = _ from PB5.out) nmp
  have RB7 : Hid (w7.heap[rb]? = some (.cells #[.int .i64 0, .int .i64 0, .int .i64 0] 110 (0, 0))) := he7.heap (show W5.drew.heap[rb]? = _ from RB5.out) nmr
  have E57 : Hid (Eff (fun k => k = g ∨ k = mb) w4 w7) := (E5.out.drew.mono (fun k h => .inl (.inl h))).trans he7 (fun k h => .inl (.inr h))
  have Q7 : Hid (IsQ 131 135 lessK B w7 g (.slice (some ⟨hb, 0, none⟩) m cap) mb ((swp es 0 m).take m) nx ck) := by
    refine ⟨G7.out, HQ.out.gB, HQ.out.mB, ?_, ⟨l7, clk, hm7, fun k => ?_⟩, ?_⟩
    · exact Row.eff (W := W5.drew) R5.out he7 (fun k hk h => nmb (by have : hb = k := by simpa [Value.ownBlock] using hk
                                                                     omega))
    · rw [hf7 k, ← hf k]
      exact hidx_take (swp_nodup HQ.out.nd) (by rw [swp_length, HM.out]) (by rw [swp_get HE0.out HEL.out, if_pos rfl]) k
    · exact ((List.take_sublist m _).map _).nodup (swp_nodup HQ.out.nd)
  have HD7 : Hid (HeapD ((swp es 0 m).take m) 0) := heapD_take HH.out HM.out HE0.out HEL.out
  have d1 : W5.cell? ⟨g, 2, none⟩ = some (.map (some mb)) := by simp [World.cell?, G5.out]
  have d2 : W5.cell? ⟨p, 3, none⟩ = some (.int .i64 e.h) := box_cell PB5.out 3 _ rfl
  have CD : Hid (Calls Try.prog 96 #[.pointer (some ⟨g, 0, none⟩), .int .i64 0] w7 (DownPost 131 135 lessK B w7 g (.slice (some ⟨hb, 0, none⟩) m cap) mb ((swp es 0 m).take m) nx ck)) :=
    down_K Q7.out 0 HD7.out (by omega) (by rw [List.length_take, swp_length, HM.out]; omega)
  have HR7 := Lib.hid hr7
  clear hW5 ngb ngp ngr nmg hml hf he7 hz7 hm7 hf7 mlt nmp nmr nmb d0 f0 hr7
  refine start_ (n := 7) (S := fun w' => w'.cell? ⟨g, 2, none⟩ = some (.map (some mb)) ∧ w'.cell? ⟨p, 3, none⟩ = some (.int .i64 e.h)) (ds := [6]) #[false, false, false, false, false, false, false] (by kernel_rfl) rfl rfl ⟨d1, d2⟩ (fun hHeld => ?_)
  refine pure_ (i := 0) (N := some 39) (v := ?_) (a' := ?_) #[true, false, false, false, false, false, false] rfl rfl (by kernel_rfl) (fun _ _ _ h => h) (Or.inl ⟨by rfl, ?_⟩) ?_ ?_
  rotate_left
  · intro w'
    go_simp
    with_reducible rfl
  rotate_left
  · simp only [Act.put, List.setIfInBounds_toArray, List.set_cons_zero, List.set_cons_succ, i64_w, i32_w]
    rfl
  refine pure_ (i := 1) (N := some 40) (v := ?_) (a' := ?_) #[true, true, false, false, false, false, false] rfl rfl (by kernel_rfl) (fun _ _ _ h => h) (Or.inl ⟨by rfl, ?_⟩) ?_ ?_
  rotate_left
  · intro w'
    go_simp
    with_reducible rfl
  rotate_left
  · simp only [Act.put, List.setIfInBounds_toArray, List.set_cons_zero, List.set_cons_succ, i64_w, i32_w]
    rfl
  refine pure_ (i := 2) (N := some 41) (v := ?_) (a' := ?_) #[true, true, true, false, false, false, false] rfl rfl (by kernel_rfl) (fun _ _ _ h => h) (Or.inl ⟨by rfl, ?_⟩) ?_ ?_
  rotate_left
  · intro w'
    go_simp
    with_reducible rfl
  rotate_left
  · simp only [Act.put, List.setIfInBounds_toArray, List.set_cons_zero, List.set_cons_succ, i64_w, i32_w]
    rfl
  refine pure_ (i := 4) (N := some 43) (v := ?_) (a' := ?_) #[true, true, true, false, true, false, false] rfl rfl (by kernel_rfl) (fun _ _ _ h => h) (Or.inl ⟨by rfl, ?_⟩) ?_ ?_
  rotate_left
  · intro w'
    go_simp
    with_reducible rfl
  rotate_left
  · simp only [Act.put, List.setIfInBounds_toArray, List.set_cons_zero, List.set_cons_succ, i64_w, i32_w]
    rfl
  refine take_ (i := 3) (N := some 42) (v := ?_) (a' := ?_) #[true, true, true, true, true, false, false] rfl rfl (by kernel_rfl) (fun _ _ _ h => h) (Or.inl ⟨by rfl, ?_⟩) hHeld ?_ ?_
  rotate_left
  · rintro w' ⟨s0, s1⟩
    go_simp
    with_reducible rfl
  rotate_left
  · simp only [Act.put, List.setIfInBounds_toArray, List.set_cons_zero, List.set_cons_succ, i64_w, i32_w]
    rfl
  refine take_ (i := 5) (N := some 44) (v := ?_) (a' := ?_) #[true, true, true, true, true, true, false] rfl rfl (by kernel_rfl) (fun _ _ _ h => h) (Or.inl ⟨by rfl, ?_⟩) hHeld ?_ ?_
  rotate_left
  · rintro w' ⟨s0, s1⟩
    go_simp
    with_reducible rfl
  rotate_left
  · simp only [Act.put, List.setIfInBounds_toArray, List.set_cons_zero, List.set_cons_succ, i64_w, i32_w]
    rfl
  refine last_ (i := 6) (N := none) #[true, true, true, true, true, true, true] rfl rfl (by kernel_rfl) (by decide) (fun K hK => ?_)
  refine value_ (w1 := w7) (v := .tuple #[]) (by rfl) rfl (exec_delete rfl (by rfl) (by rfl) HR7.out) ?_
  refine hK.out _ _ ?_
  clear hK K
  refine done_ (by kernel_rfl) ?_
  clear hHeld d1 d2
  go_wp2_with fail
  refine CD.out.mono ?_
  rintro r w8 ⟨rfl, es', hq8, hp8, hh8, he8⟩
  have nb8 : ∀ k, (some k = (Value.slice (some ⟨hb, 0, none⟩) m cap).ownBlock ∨ k = mb) → k < w.heap.size := by
    rintro k (h | h)
    · have : k = hb := by simpa [Value.ownBlock] using h
      rw [this]; exact bl.out
    · exact NB4.out k (.inr h)
  have PB8 : Hid (w8.heap[p]? = some (.cells #[.int .i64 e.x.node, .int .i64 e.x.c, .int .i64 e.x.s, .int .i64 e.h, .int .i64 e.t] 135 (0, 0))) := he8.heap PB7.out (fun h => by have h1 := nb8 p h; have h2 := PP.out; omega)
  have RB8 : Hid (w8.heap[rb]? = some (.cells #[.int .i64 0, .int .i64 0, .int .i64 0] 110 (0, 0))) := he8.heap RB7.out (fun h => by have h1 := nb8 rb h; have h2 := RX.out; omega)
  have H8 := Lib.hid (And.intro hq8 (And.intro hp8 hh8))
  have E8 := Lib.hid he8
  have y0 : w8.cell? ⟨p, 0, none⟩ = some (.int .i64 e.x.node) := by simp [World.cell?, PB8.out]
  have y1 : w8.cell? ⟨p, 1, none⟩ = some (.int .i64 e.x.c) := by simp [World.cell?, PB8.out]
  have y2 : w8.cell? ⟨p, 2, none⟩ = some (.int .i64 e.x.s) := by simp [World.cell?, PB8.out]
  have z0 : w8.cell? ⟨rb, 0, none⟩ = some (.int .i64 0) := by simp [World.cell?, RB8.out]
  have z1 : w8.cell? ⟨rb, 1, none⟩ = some (.int .i64 0) := by simp [World.cell?, RB8.out]
  have z2 : w8.cell? ⟨rb, 2, none⟩ = some (.int .i64 0) := by simp [World.cell?, RB8.out]
  have q0 : w8.frozen? ⟨rb, 0, none⟩ = false := frozen_blk RB8.out 0
  have q1 : w8.frozen? ⟨rb, 1, none⟩ = false := frozen_blk RB8.out 1
  have q2 : w8.frozen? ⟨rb, 2, none⟩ = false := frozen_blk RB8.out 2
  clear hq8 hp8 hh8 he8 nb8
  go_wp2_with fail
  refine bodyPost_ret (res_ct rfl _ _ rb [.int .i64 e.x.node, .int .i64 e.x.c, .int .i64 e.x.s] (by rfl) ?_ Try.underlying110 rfl (by kernel_rfl)) rfl ?_
  · refine box_range (L := [.int .i64 e.x.node, .int .i64 e.x.c, .int .i64 e.x.s]) (t := 110) ?_ 0 _ (fun j v h => by rw [Nat.zero_add]; exact h)
    exact set_cell (set_cell (set_cell (RB8.out) 0 _) 1 _) 2 _
  · refine ⟨rfl, .slice (some ⟨hb, 0, none⟩) m cap, es', ?_, ?_, H8.out.2.2, ?_, rfl⟩
    · exact H8.out.1.eff (S := fun k => k = rb) ((((Eff.refl (fun k => k = rb) w8).setCell (p := ⟨rb, 0, none⟩) (.inl rfl) _).setCell (p := ⟨rb, 1, none⟩) (.inl rfl) _).setCell (p := ⟨rb, 2, none⟩) (.inl rfl) _) (fun k hk h => by
        have h1 := RX.out
        rcases hk with h2 | h2 | h2
        · have := gl.out; omega
        · have h3 : k = hb := by simpa [Value.ownBlock] using h2
          have := bl.out; omega
        · have := NB4.out k (.inr h2); omega)
    · exact (take_perm HM.out HE0.out HEL.out).trans (H8.out.2.1.symm.cons e)
    · have e1 : Eff (own g (.slice (some ⟨hb, 0, none⟩) es.length cap) mb) w W3 := (E1.out.trans E3.out (fun _ h => h.elim)).mono (fun _ h => h.elim)
      have e2 := (e1.trans E4.out (fun k h => .inl (h.elim (fun h => .inr (.inl h)) (fun h => .inr (.inr h))))).trans E57.out (fun k h => .inl (h.elim (fun h => .inl h) (fun h => .inr (.inr h))))
      have e3 := e2.trans E8.out (fun k h => .inl (h.elim (fun h => .inr (.inl h)) (fun h => .inr (.inr h))))
      exact e3.trans (T := fun k => k = rb) ((((Eff.refl (fun k => k = rb) w8).setCell (p := ⟨rb, 0, none⟩) (.inl rfl) _).setCell (p := ⟨rb, 1, none⟩) (.inl rfl) _).setCell (p := ⟨rb, 2, none⟩) (.inl rfl) _) (fun k h => .inr (by have h1 := RX.out; omega))
end Go.Proofs.Ytepfbhigeghjjaa.Q
