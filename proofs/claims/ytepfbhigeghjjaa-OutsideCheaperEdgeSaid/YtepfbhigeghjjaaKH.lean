/- settle. -/
import Derived.Test.YtepfbhigeghjjaaKG
namespace Go.Proofs.Ytepfbhigeghjjaa.Q
open Go.RowKit Go.Proofs.YtepfbhigeghjjaaW.PrintLast
set_option linter.unusedVariables false
set_option linter.unusedSimpArgs false

def SettlePost (w : World) (s bv bs bo bu be g hb n ecap : Nat) (A : Option Addr) (es : List REd) (E : List K.Ed) (st : Nat → Bool) (v : Nat → K.V) (us : Nat → Value) (ef : Nat → Int) (nd : Nat) (y : K.V) (S : List (En K.K3)) (D : List Nat) (r : Ending) (w' : World) : Prop :=
  r = .returned (.tuple #[]) ∧ ∃ op' S' nx' ck' D', KSt w w' s bv bs bo bu be g hb n ecap A es (K.upd st nd true) (K.upd v nd y) op' us (K.uses E) ef S' nx' ck' ∧ PSt E n (K.upd st nd true) (K.upd v nd y) op' S' nx' ck' y D' [] ∧ S'.length + D.length ≤ S.length + D'.length
/-- What holds behind j uses. -/
def HInv (w wr : World) (s bv bs bo bu be g hb n ecap : Nat) (A : Option Addr) (es : List REd) (E : List K.Ed) (st : Nat → Bool) (v : Nat → K.V) (us : Nat → Value) (ef : Nat → Int) (nd : Nat) (y : K.V) (S : List (En K.K3)) (D : List Nat) (j : Nat) : Prop :=
  ∃ op' S' nx' ck' D', KSt w wr s bv bs bo bu be g hb n ecap A es (K.upd st nd true) (K.upd v nd y) op' us (K.uses E) ef S' nx' ck' ∧ PSt E n (K.upd st nd true) (K.upd v nd y) op' S' nx' ck' y D' ((K.uses E nd).drop j) ∧ S'.length + D.length ≤ S.length + D'.length
set_option maxHeartbeats 4000000 in
set_option maxRecDepth 100000 in
theorem settle81 {w wr : World} {s bv bs bo bu be g hb n ecap : Nat} {A : Option Addr} {es : List REd} {E : List K.Ed} {st : Nat → Bool} {v : Nat → K.V} {op : Nat → Int} {us : Nat → Value} {ef : Nat → Int} {S : List (En K.K3)} {nx ck : Int} {D : List Nat} {nd : Nat} {y1 y2 : Int} (h : KSt w wr s bv bs bo bu be g hb n ecap A es st v op us (K.uses E) ef S nx ck)
    (hp : PSt E n (K.upd st nd true) (K.upd v nd (y1, y2)) op S nx ck (y1, y2) D (K.uses E nd)) (hE : E = es.map REd.plain) (hok : ∀ e ∈ es, e.ok n) (hA : EdsIn w A es) (hnd : nd < n) (hm : es.length ≤ 1000) (hul : (K.uses E nd).length ≤ 1000000) :
    Calls Try.prog 81 #[.pointer (some ⟨s, 0, none⟩), .agg #[.int .i64 nd, .int .i64 y1, .int .i64 y2]] wr (SettlePost w s bv bs bo bu be g hb n ecap A es E st v us ef nd (y1, y2) S D) := by
  obtain ⟨W1, hW1⟩ : ∃ W, W = wr.alloc (.cells #[.int .i64 nd, .int .i64 y1, .int .i64 y2] 110) := ⟨_, rfl⟩
  obtain ⟨cb, hcb⟩ : ∃ b, b = wr.heap.size := ⟨_, rfl⟩
  have B1 : Below wr.heap.size wr W1 := by rw [hW1]; exact (Below.refl _ _).alloc (Nat.le_refl _) _
  have CB1 : W1.heap[cb]? = some (.cells #[.int .i64 nd, .int .i64 y1, .int .i64 y2] 110 (0, 0)) := by rw [hW1, hcb]; exact heap_alloc_new wr _
  have K0 := h.bel B1
  have K1 : Hid (KSt w W1.drew s bv bs bo bu be g hb n ecap A es st v op us (K.uses E) ef S nx ck) := K0.bel (Below.refl _ _).drew
  have K2 : Hid (KSt w (W1.drew.setCell ⟨bs, nd, none⟩ (.bool true)) s bv bs bo bu be g hb n ecap A es (K.upd st nd true) v op us (K.uses E) ef S nx ck) := K1.out.setSt nd true
  have K3 : Hid (KSt w ((W1.drew.setCell ⟨bs, nd, none⟩ (.bool true)).setCells bv (nd * 2) [.int .i64 y1, .int .i64 y2]) s bv bs bo bu be g hb n ecap A es (K.upd st nd true) (K.upd v nd (y1, y2)) op us (K.uses E) ef S nx ck) := K2.out.setV nd hnd (y1, y2)
  have CB3 : Hid (((W1.drew.setCell ⟨bs, nd, none⟩ (.bool true)).setCells bv (nd * 2) [.int .i64 y1, .int .i64 y2]).heap[cb]? = some (.cells #[.int .i64 nd, .int .i64 y1, .int .i64 y2] 110 (0, 0))) := by
    show _ = _
    obtain ⟨c0, k0, _⟩ := K1.out.sett
    obtain ⟨c5, k5, _⟩ := K1.out.vals.blk
    exact (eff_setCells bv _ (nd * 2) _).1.heap ((eff_setCell W1.drew bs nd (.bool true)).heap (show W1.drew.heap[cb]? = _ from CB1) (ne_of_type (show W1.drew.heap[cb]? = _ from CB1) k0 (by decide))) (ne_of_type (show W1.drew.heap[cb]? = _ from CB1) k5 (by decide))
  have n1 : Hid (¬ s = bs) := by
    obtain ⟨c0, k0, _⟩ := K1.out.sett
    obtain ⟨c4, k4⟩ := K1.out.blkS
    exact ne_of_type k4 k0 (by decide)
  have n2 : Hid (¬ cb = bs) := by
    obtain ⟨c0, k0, _⟩ := K1.out.sett
    exact ne_of_type (show W1.drew.heap[cb]? = _ from CB1) k0 (by decide)
  have c3 := K0.c.2.2.1
  have c2 := K0.c.2.1
  have x0 : W1.cell? ⟨cb, 0, none⟩ = some (.int .i64 nd) := by simp only [World.cell?, CB1]; rfl
  have X1 : W1.rangeAt cb 1 [.int .i64 y1, .int .i64 y2] := box_range (L := [.int .i64 nd, .int .i64 y1, .int .i64 y2]) CB1 1 _ (fun j u hu => by
    rw [Nat.add_comm]
    exact hu)
  have hnl : (nd : Int) < (n : Int) := by omega
  have HP := Lib.hid hp
  have HEE := Lib.hid hE
  have HOK := Lib.hid hok
  have HA := Lib.hid hA
  have HW := Lib.hid (And.intro hW1 hcb)
  have EOK : Hid (∀ e ∈ E, K.OkE n e) := by
    intro e he
    rw [hE] at he
    obtain ⟨e0, h0, rfl⟩ := List.mem_map.1 he
    obtain ⟨k1, k2, k3, k4, k5, _⟩ := hok e0 h0
    refine ⟨by show e0.head.toNat < n; omega, fun t ht => ?_, k4, k5⟩
    obtain ⟨t0, h1, rfl⟩ := List.mem_map.1 ht
    have := k3 t0 h1
    omega
  clear hp hE hok hA hW1 hcb B1 CB1 K0 h
  go_enter Try.func81, Try.ntmps81
  go_wp2_with fail
  rw [← HW.out.1, ← HW.out.2]
  have hnl : (nd : Int) < (n : Int) := by omega
  refine start_ (n := 18) (S := fun w' => w'.cell? ⟨s, 3, none⟩ = some (.slice (some ⟨bs, 0, none⟩) n n) ∧ w'.cell? ⟨s, 2, none⟩ = some (.slice (some ⟨bv, 0, none⟩) n n) ∧ w'.cell? ⟨cb, 0, none⟩ = some (.int .i64 nd) ∧ w'.rangeAt cb 1 [.int .i64 y1, .int .i64 y2]) (ds := [17]) #[false, false, false, false, false, false, false, false, false, false, false, false, false, false, false, false, false, false] (by kernel_rfl) rfl rfl ⟨c3, c2, x0, X1⟩ (fun hHeld => ?_)
  refine pure_ (i := 0) (N := some 6) (v := ?_) (a' := ?_) #[true, false, false, false, false, false, false, false, false, false, false, false, false, false, false, false, false, false] rfl rfl (by kernel_rfl) (fun _ _ _ h => h) (Or.inl ⟨by rfl, ?_⟩) ?_ ?_
  rotate_left
  · intro w'
    go_simp
    with_reducible rfl
  rotate_left
  · simp only [Act.put, List.setIfInBounds_toArray, List.set_cons_zero, List.set_cons_succ, i64_w, i32_w]
    rfl
  refine pure_ (i := 1) (N := some 7) (v := ?_) (a' := ?_) #[true, true, false, false, false, false, false, false, false, false, false, false, false, false, false, false, false, false] rfl rfl (by kernel_rfl) (fun _ _ _ h => h) (Or.inl ⟨by rfl, ?_⟩) ?_ ?_
  rotate_left
  · intro w'
    go_simp
    with_reducible rfl
  rotate_left
  · simp only [Act.put, List.setIfInBounds_toArray, List.set_cons_zero, List.set_cons_succ, i64_w, i32_w]
    rfl
  refine pure_ (i := 2) (N := some 8) (v := ?_) (a' := ?_) #[true, true, true, false, false, false, false, false, false, false, false, false, false, false, false, false, false, false] rfl rfl (by kernel_rfl) (fun _ _ _ h => h) (Or.inl ⟨by rfl, ?_⟩) ?_ ?_
  rotate_left
  · intro w'
    go_simp
    with_reducible rfl
  rotate_left
  · simp only [Act.put, List.setIfInBounds_toArray, List.set_cons_zero, List.set_cons_succ, i64_w, i32_w]
    rfl
  refine pure_ (i := 4) (N := some 10) (v := ?_) (a' := ?_) #[true, true, true, false, true, false, false, false, false, false, false, false, false, false, false, false, false, false] rfl rfl (by kernel_rfl) (fun _ _ _ h => h) (Or.inl ⟨by rfl, ?_⟩) ?_ ?_
  rotate_left
  · intro w'
    go_simp
    with_reducible rfl
  rotate_left
  · simp only [Act.put, List.setIfInBounds_toArray, List.set_cons_zero, List.set_cons_succ, i64_w, i32_w]
    rfl
  refine pure_ (i := 6) (N := some 12) (v := ?_) (a' := ?_) #[true, true, true, false, true, false, true, false, false, false, false, false, false, false, false, false, false, false] rfl rfl (by kernel_rfl) (fun _ _ _ h => h) (Or.inl ⟨by rfl, ?_⟩) ?_ ?_
  rotate_left
  · intro w'
    go_simp
    with_reducible rfl
  rotate_left
  · simp only [Act.put, List.setIfInBounds_toArray, List.set_cons_zero, List.set_cons_succ, i64_w, i32_w]
    rfl
  refine pure_ (i := 7) (N := some 13) (v := ?_) (a' := ?_) #[true, true, true, false, true, false, true, true, false, false, false, false, false, false, false, false, false, false] rfl rfl (by kernel_rfl) (fun _ _ _ h => h) (Or.inl ⟨by rfl, ?_⟩) ?_ ?_
  rotate_left
  · intro w'
    go_simp
    with_reducible rfl
  rotate_left
  · simp only [Act.put, List.setIfInBounds_toArray, List.set_cons_zero, List.set_cons_succ, i64_w, i32_w]
    rfl
  refine pure_ (i := 8) (N := some 14) (v := ?_) (a' := ?_) #[true, true, true, false, true, false, true, true, true, false, false, false, false, false, false, false, false, false] rfl rfl (by kernel_rfl) (fun _ _ _ h => h) (Or.inl ⟨by rfl, ?_⟩) ?_ ?_
  rotate_left
  · intro w'
    go_simp
    with_reducible rfl
  rotate_left
  · simp only [Act.put, List.setIfInBounds_toArray, List.set_cons_zero, List.set_cons_succ, i64_w, i32_w]
    rfl
  refine pure_ (i := 10) (N := some 16) (v := ?_) (a' := ?_) #[true, true, true, false, true, false, true, true, true, false, true, false, false, false, false, false, false, false] rfl rfl (by kernel_rfl) (fun _ _ _ h => h) (Or.inl ⟨by rfl, ?_⟩) ?_ ?_
  rotate_left
  · intro w'
    go_simp
    with_reducible rfl
  rotate_left
  · simp only [Act.put, List.setIfInBounds_toArray, List.set_cons_zero, List.set_cons_succ, i64_w, i32_w]
    rfl
  refine pure_ (i := 12) (N := some 18) (v := ?_) (a' := ?_) #[true, true, true, false, true, false, true, true, true, false, true, false, true, false, false, false, false, false] rfl rfl (by kernel_rfl) (fun _ _ _ h => h) (Or.inl ⟨by rfl, ?_⟩) ?_ ?_
  rotate_left
  · intro w'
    go_simp
    with_reducible rfl
  rotate_left
  · simp only [Act.put, List.setIfInBounds_toArray, List.set_cons_zero, List.set_cons_succ, i64_w, i32_w]
    rfl
  refine take_ (i := 3) (N := some 9) (v := ?_) (a' := ?_) #[true, true, true, true, true, false, true, true, true, false, true, false, true, false, false, false, false, false] rfl rfl (by kernel_rfl) (fun _ _ _ h => h) (Or.inl ⟨by rfl, ?_⟩) hHeld ?_ ?_
  rotate_left
  · rintro w' ⟨s0, s1, s2, s3⟩
    go_simp
    with_reducible rfl
  rotate_left
  · simp only [Act.put, List.setIfInBounds_toArray, List.set_cons_zero, List.set_cons_succ, i64_w, i32_w]
    rfl
  refine take_ (i := 5) (N := some 11) (v := ?_) (a' := ?_) #[true, true, true, true, true, true, true, true, true, false, true, false, true, false, false, false, false, false] rfl rfl (by kernel_rfl) (fun _ _ _ h => h) (Or.inl ⟨by rfl, ?_⟩) hHeld ?_ ?_
  rotate_left
  · rintro w' ⟨s0, s1, s2, s3⟩
    go_simp
    with_reducible rfl
  rotate_left
  · simp only [Act.put, List.setIfInBounds_toArray, List.set_cons_zero, List.set_cons_succ, i64_w, i32_w]
    rfl
  refine take_ (i := 9) (N := some 15) (v := ?_) (a' := ?_) #[true, true, true, true, true, true, true, true, true, true, true, false, true, false, false, false, false, false] rfl rfl (by kernel_rfl) (fun _ _ _ h => h) (Or.inl ⟨by rfl, ?_⟩) hHeld ?_ ?_
  rotate_left
  · rintro w' ⟨s0, s1, s2, s3⟩
    go_simp
    with_reducible rfl
  rotate_left
  · simp only [Act.put, List.setIfInBounds_toArray, List.set_cons_zero, List.set_cons_succ, i64_w, i32_w]
    rfl
  refine pure_ (i := 14) (N := some 20) (v := ?_) (a' := ?_) #[true, true, true, true, true, true, true, true, true, true, true, false, true, false, true, false, false, false] rfl rfl (by kernel_rfl) (fun _ _ _ h => h) (Or.inl ⟨by rfl, ?_⟩) ?_ ?_
  rotate_left
  · intro w'
    go_simp
    with_reducible rfl
  rotate_left
  · simp only [Act.put, List.setIfInBounds_toArray, List.set_cons_zero, List.set_cons_succ, i64_w, i32_w]
    rfl
  refine take_ (i := 11) (N := some 17) (v := ?_) (a' := ?_) #[true, true, true, true, true, true, true, true, true, true, true, true, true, false, true, false, false, false] rfl rfl (by kernel_rfl) (fun _ _ _ h => h) (Or.inl ⟨by rfl, ?_⟩) hHeld ?_ ?_
  rotate_left
  · rintro w' ⟨s0, s1, s2, s3⟩
    go_simp
    with_reducible rfl
  rotate_left
  · simp only [Act.put, List.setIfInBounds_toArray, List.set_cons_zero, List.set_cons_succ, i64_w, i32_w]
    rfl
  refine take_ (i := 13) (N := some 19) (a' := ?_) #[true, true, true, true, true, true, true, true, true, true, true, true, true, true, true, false, false, false] rfl rfl (by kernel_rfl) (fun _ _ _ h => h) (yieldsIf_load_mid (by rfl) 54 _ rfl cb 1 (by rfl) [.int .i64 y1, .int .i64 y2] _ (fun w' h => h.2.2.2) Try.underlying54 rfl (by kernel_rfl)) hHeld ?_ ?_
  rotate_left
  · simp only [Act.put, List.setIfInBounds_toArray, List.set_cons_zero, List.set_cons_succ, i64_w, i32_w]
    rfl
  refine one_ (i := 15) (N := none) #[true, true, true, true, true, true, true, true, true, true, true, true, true, true, true, true, false, false] rfl rfl (by kernel_rfl) (by decide) (fun K hK => ?_)
  refine skip_ (w1 := W1.drew.setCell ⟨bs, nd, none⟩ (.bool true)) (by rfl) rfl (run_u (run_storeAt_one (w := W1.drew) (by kernel_rfl) rfl (o := .bool (st nd)) (K1.out.sett.cell hnd) (K1.out.sett.frozen nd))) ?_
  refine hK.out _ _ ⟨((eff_setCell W1.drew bs nd (.bool true)).cell hHeld.1 n1.out), ((eff_setCell W1.drew bs nd (.bool true)).cell hHeld.2.1 n1.out), ((eff_setCell W1.drew bs nd (.bool true)).cell hHeld.2.2.1 n2.out), (rangeAt_eff hHeld.2.2.2 (eff_setCell W1.drew bs nd (.bool true)) n2.out)⟩ (fun hHeld => ?_)
  clear hK K
  refine pure_ (i := 16) (N := some 21) (v := ?_) (a' := ?_) #[true, true, true, true, true, true, true, true, true, true, true, true, true, true, true, true, true, false] rfl rfl (by kernel_rfl) (fun _ _ _ h => h) (Or.inl ⟨by rfl, ?_⟩) ?_ ?_
  rotate_left
  · intro w'
    go_simp
    with_reducible rfl
  rotate_left
  · simp only [Act.put, List.setIfInBounds_toArray, List.set_cons_zero, List.set_cons_succ, i64_w, i32_w]
    rfl
  refine last_ (i := 17) (N := none) #[true, true, true, true, true, true, true, true, true, true, true, true, true, true, true, true, true, true] rfl rfl (by kernel_rfl) (by decide) (fun K hK => ?_)
  refine skip_ (w1 := (W1.drew.setCell ⟨bs, nd, none⟩ (.bool true)).setCells bv (nd * 2) [.int .i64 y1, .int .i64 y2]) (by rfl) rfl (run_u (run_storeAt_mid _ bv (nd * 2) 54 #[.int .i64 y1, .int .i64 y2] (K2.out.vals.there nd hnd) (by kernel_rfl) (by kernel_rfl))) ?_
  refine hK.out _ _ ?_
  clear hK K
  refine done_ (by kernel_rfl) ?_
  clear hHeld c3 c2 x0 X1
  obtain ⟨W4, hW4⟩ : ∃ W, W = (W1.drew.setCell ⟨bs, nd, none⟩ (.bool true)).setCells bv (nd * 2) [.int .i64 y1, .int .i64 y2] := ⟨_, rfl⟩
  rw [← hW4] at K3 CB3
  rw [← hW4]
  clear hW4 K1 K2 n1 n2
  have c5 := K3.out.c.2.2.2.2.1
  have x0 : W4.cell? ⟨cb, 0, none⟩ = some (.int .i64 nd) := by simp only [World.cell?, CB3.out]; rfl
  obtain ⟨uA, uc, hus⟩ := own_slice (K3.out.use.at_ nd hnd)
  have u0 : W4.cell? ⟨bu, nd, none⟩ = some (.slice uA (K.uses E nd).length uc) := by rw [← hus]; exact K3.out.use.row.cell hnd
  have HU := Lib.hid hus
  clear hus
  go_wp2_with fail
  have hnl : (nd : Int) < (n : Int) := by omega
  go_quiet (fail)
  go_wp2_with fail
  have HI : Hid (HInv w (W4.drewN nq) s bv bs bo bu be g hb n ecap A es E st v us ef nd (y1, y2) S D 0) := ⟨op, S, nx, ck, D, K3.out.bel (below_drewN (Below.refl _ _) nq), HP.out, Nat.le_refl _⟩
  clear K3 CB3 c5 x0 u0 HP
  go_loopg [31] (K.uses E nd).length (fun k si wr => ∃ j : Nat, si = .int .i64 j ∧ j ≤ (K.uses E nd).length ∧ (K.uses E nd).length - j ≤ k ∧ Hid (HInv w wr s bv bs bo bu be g hb n ecap A es E st v us ef nd (y1, y2) S D j))
  case atStart => exact ⟨0, rfl, by omega, by omega, HI⟩
  case round =>
    clear HI
    obtain ⟨j, rfl, hj, hk, HR⟩ := hrel
    by_cases hlt : j < (K.uses E nd).length
    · obtain ⟨op2, S2, nx2, ck2, D2, k2, p2, m2⟩ := HR.out
      have hlz : (j : Int) < ((K.uses E nd).length : Int) := by omega
      obtain ⟨k, hk'⟩ : ∃ k, (K.uses E nd)[j]? = some k := ⟨_, List.getElem?_eq_getElem hlt⟩
      have hdrop : (K.uses E nd).drop j = k :: (K.uses E nd).drop (j + 1) := by
        obtain ⟨hl, hkk⟩ := List.getElem?_eq_some_iff.1 hk'
        rw [List.drop_eq_getElem_cons hl, hkk]
      obtain ⟨e', he', hte⟩ := K.mem_uses (List.mem_of_getElem? hk')
      obtain ⟨e, he, rfl⟩ : ∃ e, es[k]? = some e ∧ e.plain = e' := by
        rw [HEE.out, List.getElem?_map] at he'
        exact Option.map_eq_some_iff.1 he'
      have hkl : k < es.length := (List.getElem?_eq_some_iff.1 he).1
      rw [hdrop] at p2
      have hdec := p2.dec EOK.out he' hte (K.upd_self v nd (y1, y2))
      have hup : wr.cell? ⟨s, 4, none⟩ = some (.slice (some ⟨bo, 0, none⟩) es.length es.length) := k2.c.2.2.2.1
      obtain ⟨ub, huA⟩ : ∃ ub, uA = some ⟨ub, 0, none⟩ := by
        have h1 := k2.use.at_ nd hnd
        rw [HU.out] at h1
        rcases h1.2 with ⟨h2, h3⟩ | ⟨b, cap, cur, h2, _⟩
        · omega
        · cases h2
          exact ⟨b, rfl⟩
      subst huA
      have u1 : wr.cell? ⟨ub, j, none⟩ = some (.int .i64 k) := by
        have h1 := k2.use.at_ nd hnd
        rw [HU.out] at h1
        have h2 := World.ownsRow.cells h1 (g := ub) rfl j (.int .i64 k) (by rw [List.getElem?_map, hk']; rfl)
        rw [Addr.add_mid, Nat.zero_add] at h2
        exact h2
      obtain ⟨o0, ho0⟩ : ∃ x, op2 k = x := ⟨_, rfl⟩
      have o1 : wr.cell? ⟨bo, k, none⟩ = some (.int .i64 o0) := by rw [← ho0]; exact k2.opn.cell hkl
      have f1 : wr.frozen? ⟨bo, k, none⟩ = false := k2.opn.frozen k
      have hkz : (k : Int) < (es.length : Int) := by omega
      rw [ho0] at hdec
      obtain ⟨d1, d2, d3, d4⟩ := hdec
      have htl : e.plain.tails.length ≤ 4 := by show (e.tails.map Int.toNat).length ≤ 4; rw [List.length_map]; exact (HOK.out e (List.mem_of_getElem? he)).2.2.2.2.2
      have hdl : ((K.uses E nd).drop (j + 1)).length ≤ 1000000 := by rw [List.length_drop]; omega
      have hwr : IntKind.i64.wrap (o0 - 1) = o0 - 1 := IntWalk.i64_in _ (by omega)
      obtain ⟨W5, hW5⟩ : ∃ W, W = wr.setCell ⟨bo, k, none⟩ (.int .i64 (o0 - 1)) := ⟨_, rfl⟩
      have K5 : KSt w W5 s bv bs bo bu be g hb n ecap A es (K.upd st nd true) (K.upd v nd (y1, y2)) (K.upd op2 k (o0 - 1)) us (K.uses E) ef S2 nx2 ck2 := by rw [hW5]; exact k2.setOp k (o0 - 1)
      have v1 : (wr.setCell ⟨bo, k, none⟩ (.int .i64 (o0 - 1))).cell? ⟨s, 4, none⟩ = some (.slice (some ⟨bo, 0, none⟩) es.length es.length) := by rw [← hW5]; exact K5.c.2.2.2.1
      have v2 : (wr.setCell ⟨bo, k, none⟩ (.int .i64 (o0 - 1))).cell? ⟨bo, k, none⟩ = some (.int .i64 (o0 - 1)) := by rw [← hW5]; have := K5.opn.cell hkl; rwa [K.upd_self] at this
      have hDl : D2.length ≤ 1000 := by have := p2.inv.count; rw [HEE.out, List.length_map] at this; omega
      have q1 := p2.nx0
      have q2 := p2.nx1
      have q3 := p2.ck0
      have q4 := p2.ck1
      have q5 := p2.slen
      have C79 := Lib.hid (offer79 K5 HA.out k e he (HOK.out e (List.mem_of_getElem? he)) p2.inv.ok p2.hs q1 (by omega) q3 (by omega) (by omega))
      have K5' := Lib.hid K5
      have HW5 := Lib.hid hW5
      have HR2 := Lib.hid (And.intro d3 (And.intro d4 m2))
      clear HR k2 p2 m2 hk' hdrop he' hte he d1 d2 d3 d4 ho0 K5 hW5 htl hdl hDl q1 q2 q3 q4 q5
      by_cases hz : o0 - 1 = 0
      · have hzb : (o0 - 1 == 0) = true := beq_iff_eq.2 hz
        have HZ := Lib.hid hz
        clear hz
        go_wp2_with fail
        rw [← HW5.out]
        with_reducible refine C79.out.mono ?_
        rintro r w6 ⟨rfl, ⟨hy, k6⟩ | ⟨hy, k6⟩⟩
        · have N6 := Lib.hid (And.intro k6 ((HR2.out.2.1 HZ.out).1 hy))
          clear k6 hy C79
          go_wp2_with fail
          go_roundg ((K.uses E nd).length - (j + 1))
          case measure => omega
          case rel => exact ⟨j + 1, by go_num, by omega, by omega, _, _, _, _, (k :: D2), N6.out.1, N6.out.2, by have := HR2.out.2.2; simp only [List.length_cons]; omega⟩
        · have N6 := Lib.hid (And.intro k6 ((HR2.out.2.1 HZ.out).2 hy))
          clear k6 hy C79
          go_wp2_with fail
          go_roundg ((K.uses E nd).length - (j + 1))
          case measure => omega
          case rel => exact ⟨j + 1, by go_num, by omega, by omega, _, _, _, _, (k :: D2), N6.out.1, N6.out.2, by have := HR2.out.2.2; simp only [List.length_cons]; omega⟩
      · have hzb : (o0 - 1 == 0) = false := beq_eq_false_iff_ne.2 hz
        have N6 := Lib.hid (And.intro K5'.out (HR2.out.1 hz))
        clear hz C79
        go_wp2_with fail
        rw [← HW5.out]
        go_roundg ((K.uses E nd).length - (j + 1))
        case measure => omega
        case rel => exact ⟨j + 1, by go_num, by omega, by omega, _, _, _, _, D2, N6.out.1, N6.out.2, by have := HR2.out.2.2; omega⟩
    · have hlz : ¬ (j : Int) < ((K.uses E nd).length : Int) := by omega
      obtain rfl : j = (K.uses E nd).length := by omega
      go_wp2_with fail
      go_end0
      obtain ⟨op2, S2, nx2, ck2, D2, k2, p2, m2⟩ := HR.out
      rw [List.drop_length] at p2
      exact ⟨rfl, op2, S2, nx2, ck2, D2, k2, p2, m2⟩
end Go.Proofs.Ytepfbhigeghjjaa.Q
