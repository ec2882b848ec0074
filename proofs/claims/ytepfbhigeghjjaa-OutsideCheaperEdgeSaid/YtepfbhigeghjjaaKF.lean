/- The solver in memory; offer. -/
import Derived.Test.YtepfbhigeghjjaaKD
import Derived.Test.YtepfbhigeghjjaaKE
import Derived.Test.YtepfbhigeghjjaaQKa
namespace Go.Proofs.Ytepfbhigeghjjaa.Q
open Go.RowKit Go.Proofs.YtepfbhigeghjjaaW.PrintLast
set_option linter.unusedVariables false
set_option linter.unusedSimpArgs false

/-- The rows of uses: node t's row us t holds L t; none of them is the row of open counts, no two are one. -/
structure UsesAt (W : World) (B bo bu be n : Nat) (us : Nat → Value) (L : Nat → List Nat) : Prop where
  row : W.rowIs bu 22 n us
  at_ : ∀ t, t < n → W.ownsRow B 3 1 (us t) (L t).length ((L t).map fun (k : Nat) => Value.int .i64 (k : Int))
  ne : ∀ t, t < n → (us t).ownBlock ≠ some bo
  ne2 : ∀ t, t < n → (us t).ownBlock ≠ some be
  apart : ∀ t u, t < n → u < n → t ≠ u → ∀ k, (us t).ownBlock = some k → (us u).ownBlock ≠ some k
theorem ownsRow_keep {W W' : World} {B : Nat} {e : TypeId} {z n : Nat} {v : Value} {xs : List Value} (h : W.ownsRow B e z v n xs) (hk : ∀ k o, v.ownBlock = some k → W.heap[k]? = some o → W'.heap[k]? = some o) : W'.ownsRow B e z v n xs := by
  refine ⟨h.1, h.2.imp id ?_⟩
  rintro ⟨g, cap, cur, rfl, hb, hh, h1⟩
  exact ⟨g, cap, cur, rfl, hb, hk g _ rfl hh, h1⟩
structure KSt (w wr : World) (s bv bs bo bu be g hb n ecap : Nat) (A : Option Addr) (es : List REd) (st : Nat → Bool) (v : Nat → K.V) (op : Nat → Int) (us : Nat → Value) (L : Nat → List Nat) (ef : Nat → Int) (S : List (En K.K3)) (nx ck : Int) : Prop where
  sol : SolvB wr s n A es.length ecap bv bs bo bu g
  vals : ValsAt wr bv n v
  sett : wr.rowIs bs 4 n (fun i => .bool (st i))
  opn : wr.rowIs bo 3 es.length (fun k => .int .i64 (op k))
  use : UsesAt wr w.heap.size bo bu be n us L
  edg : wr.rowIs be 3 n (fun i => .int .i64 (ef i))
  nbe : be ≠ bo
  hdr : wr.heap[hb]? = some (.cells #[.int .i64 n, .slice A es.length ecap] 48 (0, 0))
  q : QA 131 135 lessK w.heap.size wr g S nx ck
  below : Below w.heap.size w wr
  ge : w.heap.size ≤ s ∧ w.heap.size ≤ bv ∧ w.heap.size ≤ bs ∧ w.heap.size ≤ bo ∧ w.heap.size ≤ bu ∧ w.heap.size ≤ be
section
variable {w wr W : World} {s bv bs bo bu be g hb n ecap : Nat} {A : Option Addr} {es : List REd} {st : Nat → Bool} {v : Nat → K.V} {op : Nat → Int} {us : Nat → Value} {L : Nat → List Nat} {ef : Nat → Int} {S S' : List (En K.K3)} {nx ck nx' ck' : Int}
theorem KSt.effT (h : KSt w wr s bv bs bo bu be g hb n ecap A es st v op us L ef S nx ck) (he : EffT 131 135 w.heap.size wr W) (hq : QA 131 135 lessK w.heap.size W g S' nx' ck') : KSt w W s bv bs bo bu be g hb n ecap A es st v op us L ef S' nx' ck' := by
  have row : ∀ {b : Nat} {t : TypeId} {m : Nat} {f : Nat → Value}, wr.rowIs b t m f → t ≠ 131 → t ≠ 135 → W.rowIs b t m f := by
    rintro b t m f ⟨c, h1, h2, h3⟩ n1 n2
    exact ⟨c, he.blk b _ _ _ h1 n1 n2, h2, h3⟩
  refine ⟨he.blk s _ _ _ h.sol (by decide) (by decide), ?_, row h.sett (by decide) (by decide), row h.opn (by decide) (by decide), ⟨row h.use.row (by decide) (by decide), fun t ht => ?_, h.use.ne, h.use.ne2, h.use.apart⟩, row h.edg (by decide) (by decide), h.nbe, he.blk hb _ _ _ h.hdr (by decide) (by decide), hq, h.below.trans (he.below h.below.size), h.ge⟩
  · obtain ⟨⟨cur, h1, h2⟩, h3⟩ := h.vals
    have h4 := he.blk bv _ _ _ h1 (by decide) (by decide)
    refine ⟨⟨cur, h4, h2⟩, fun i hi j u hu => ?_⟩
    have h5 := h3 i hi j u hu
    simp only [World.cell?, h1] at h5
    simp only [World.cell?, h4]
    exact h5
  · refine ⟨(h.use.at_ t ht).1, (h.use.at_ t ht).2.imp id ?_⟩
    rintro ⟨b, cap, cur, h1, h2, h3, h4⟩
    exact ⟨b, cap, cur, h1, h2, he.blk b _ _ _ h3 (by decide) (by decide), h4⟩
theorem KSt.bel (h : KSt w wr s bv bs bo bu be g hb n ecap A es st v op us L ef S nx ck) (hbl : Below wr.heap.size wr W) : KSt w W s bv bs bo bu be g hb n ecap A es st v op us L ef S nx ck :=
  h.effT (EffT.of_below hbl) (h.q.eff hbl)
theorem KSt.c (h : KSt w wr s bv bs bo bu be g hb n ecap A es st v op us L ef S nx ck) : wr.cell? ⟨s, 1, none⟩ = some (.slice A es.length ecap) ∧ wr.cell? ⟨s, 2, none⟩ = some (.slice (some ⟨bv, 0, none⟩) n n) ∧ wr.cell? ⟨s, 3, none⟩ = some (.slice (some ⟨bs, 0, none⟩) n n) ∧ wr.cell? ⟨s, 4, none⟩ = some (.slice (some ⟨bo, 0, none⟩) es.length es.length) ∧ wr.cell? ⟨s, 5, none⟩ = some (.slice (some ⟨bu, 0, none⟩) n n) ∧ wr.cell? ⟨s, 6, none⟩ = some (.pointer (some ⟨g, 0, none⟩)) := by
  have h1 := h.sol
  unfold SolvB at h1
  simp [World.cell?, h1]
end
/-- What offer does with hyperedge e. -/
def OfferPost (w : World) (s bv bs bo bu be g hb n ecap : Nat) (A : Option Addr) (es : List REd) (st : Nat → Bool) (v : Nat → K.V) (op : Nat → Int) (us : Nat → Value) (L : Nat → List Nat) (ef : Nat → Int) (S : List (En K.K3)) (nx ck : Int) (e : REd) (r : Ending) (w' : World) : Prop :=
  r = .returned (.tuple #[]) ∧ (((K.comb e.plain v).1 < K.INF ∧ st e.head.toNat = false) ∧ KSt w w' s bv bs bo bu be g hb n ecap A es st v op us L ef (⟨⟨e.head.toNat, (K.comb e.plain v).1, (K.comb e.plain v).2⟩, nx, ck⟩ :: S) (nx + 1) (ck + 1) ∨ ¬ ((K.comb e.plain v).1 < K.INF ∧ st e.head.toNat = false) ∧ KSt w w' s bv bs bo bu be g hb n ecap A es st v op us L ef S nx ck)

set_option maxHeartbeats 4000000 in
set_option maxRecDepth 100000 in
theorem offer79 {w wr : World} {s bv bs bo bu be g hb n ecap : Nat} {A : Option Addr} {es : List REd} {st : Nat → Bool} {v : Nat → K.V} {op : Nat → Int} {us : Nat → Value} {L : Nat → List Nat} {ef : Nat → Int} {S : List (En K.K3)} {nx ck : Int} (h : KSt w wr s bv bs bo bu be g hb n ecap A es st v op us L ef S nx ck) (hA : EdsIn w A es) (k : Nat) (e : REd) (hk : es[k]? = some e) (hok : e.ok n) (hvo : ∀ i, i < n → K.OkV (v i))
    (hnx : ∀ x ∈ S, x.h < nx) (hn0 : 0 ≤ nx) (hn1 : nx ≤ 1000000000) (hc0 : 0 ≤ ck) (hc1 : ck ≤ 1000000000) (hlen : S.length < 1000000000) :
    Calls Try.prog 79 #[.pointer (some ⟨s, 0, none⟩), .int .i64 k] wr (OfferPost w s bv bs bo bu be g hb n ecap A es st v op us L ef S nx ck e) := by
  have hkl : k < es.length := (List.getElem?_eq_some_iff.1 hk).1
  obtain ⟨eb0, eo, rfl, hr0⟩ := hA.at_ k e hk
  have hr : wr.rangeAt eb0 (eo + k * 5) (encE e) := fun j u hu => (h.below.cell (World.block_lt_of_cell? w _ (hr0 j u hu))).trans (hr0 j u hu)
  have hti := (hA.tails e (List.mem_of_getElem? hk))
  obtain ⟨hn, hhn⟩ : ∃ x, e.head.toNat = x := ⟨_, rfl⟩
  have hhe : e.head = (hn : Int) := by rw [← hhn, Int.toNat_of_nonneg hok.1]
  have hhl : hn < n := by have := hok.2.1; omega
  obtain ⟨y1, hy1⟩ : ∃ x, (K.comb e.plain v).1 = x := ⟨_, rfl⟩
  obtain ⟨y2, hy2⟩ : ∃ x, (K.comb e.plain v).2 = x := ⟨_, rfl⟩
  have hEV : Hid (encV (K.comb e.plain v) = [.int .i64 y1, .int .i64 y2]) := by show _ = _; unfold encV; rw [hy1, hy2]
  have z0 : wr.cell? ⟨eb0, eo + k * 5, none⟩ = some (.int .i64 hn) := by have := hr 0 _ rfl; rwa [hhe] at this
  have z1 : wr.cell? ⟨eb0, eo + k * 5 + 1, none⟩ = some (.slice e.A e.tails.length e.cap) := hr 1 _ rfl
  have z2 : wr.cell? ⟨eb0, eo + k * 5 + 2, none⟩ = some (.int .i64 e.cost) := hr 2 _ rfl
  have z3 : wr.cell? ⟨eb0, eo + k * 5 + 3, none⟩ = some (.int .i64 e.l0) := hr 3 _ rfl
  have z4 : wr.cell? ⟨eb0, eo + k * 5 + 4, none⟩ = some (.int .i64 e.l1) := hr 4 _ rfl
  obtain ⟨W1, hW1⟩ : ∃ W, W = wr.alloc (.cells #[.int .i64 hn, .slice e.A e.tails.length e.cap, .int .i64 e.cost, .int .i64 e.l0, .int .i64 e.l1] 60) := ⟨_, rfl⟩
  obtain ⟨eb, heb⟩ : ∃ b, b = wr.heap.size := ⟨_, rfl⟩
  have B1 : Below wr.heap.size wr W1 := by rw [hW1]; exact (Below.refl _ _).alloc (Nat.le_refl _) _
  have EB1 : W1.heap[eb]? = some (.cells #[.int .i64 hn, .slice e.A e.tails.length e.cap, .int .i64 e.cost, .int .i64 e.l0, .int .i64 e.l1] 60 (0, 0)) := by rw [hW1, heb]; exact heap_alloc_new wr _
  have K1 := h.bel B1
  have C82 := combine82 K1.sol K1.vals e ((hti.below h.below).below B1) hok hvo
  rw [hhe, hEV.out] at C82
  have CC := Lib.hid C82
  have c1 := h.c.1
  have hlz : (k : Int) < (es.length : Int) := by omega
  have HH := Lib.hid h
  have K1' := Lib.hid K1
  have HEB := Lib.hid EB1
  have HY := Lib.hid (And.intro hy1 (And.intro hy2 hhn))
  have HW := Lib.hid (And.intro hW1 heb)
  have HNX := Lib.hid hnx
  clear hA hk hok hvo hr0 hr hti hhn hhe hy1 hy2 hW1 heb B1 EB1 K1 C82 h hnx
  go_enter Try.func79, Try.ntmps79
  go_wp2_with fail
  rw [← HW.out.1, ← HW.out.2]
  with_reducible refine CC.out.mono ?_
  rintro r w2 ⟨rfl, b2⟩
  rw [show ([Value.int .i64 y1, .int .i64 y2] : List Value).toArray = #[.int .i64 y1, .int .i64 y2] from rfl]
  obtain ⟨W3, hW3⟩ : ∃ W, W = w2.alloc (.cells #[.int .i64 y1, .int .i64 y2] 54) := ⟨_, rfl⟩
  obtain ⟨yb, hyb⟩ : ∃ b, b = w2.heap.size := ⟨_, rfl⟩
  have B3 : Below w2.heap.size w2 W3 := by rw [hW3]; exact (Below.refl _ _).alloc (Nat.le_refl _) _
  have K3 := Lib.hid ((K1'.out.bel b2).bel B3)
  have YB := Lib.hid (show W3.heap[yb]? = some (.cells #[.int .i64 y1, .int .i64 y2] 54 (0, 0)) from by rw [hW3, hyb]; exact heap_alloc_new w2 _)
  have EB := Lib.hid (below_heap B3 (below_heap b2 HEB.out))
  have HW3 := Lib.hid (And.intro hW3 hyb)
  clear hW3 hyb B3 b2
  go_wp2_with fail
  rw [← HW3.out.1, ← HW3.out.2]
  have w1 : W3.cell? ⟨yb, 0, none⟩ = some (.int .i64 y1) := by simp only [World.cell?, YB.out]; rfl
  have e0 : W3.cell? ⟨eb, 0, none⟩ = some (.int .i64 hn) := by simp only [World.cell?, EB.out]; rfl
  have c3 := K3.out.c.2.2.1
  have hjl : (hn : Int) < (n : Int) := by omega
  by_cases hy : y1 < 1099511627776
  · have g1 : decide (y1 < 1099511627776) = true := decide_eq_true hy
    cases hst : st hn with
    | true =>
      have b0 : W3.cell? ⟨bs, hn, none⟩ = some (.bool true) := by have := K3.out.sett.cell hhl; rwa [hst] at this
      have HST := Lib.hid hst
      clear hst
      go_quiet (fail)
      go_wp2_with fail
      go_end0
      refine ⟨rfl, .inr ⟨?_, K3.out.bel (below_drewN (Below.refl _ _) nq)⟩⟩
      rw [HY.out.2.2, HST.out]
      rintro ⟨_, h2⟩
      cases h2
    | false =>
      have b0 : W3.cell? ⟨bs, hn, none⟩ = some (.bool false) := by have := K3.out.sett.cell hhl; rwa [hst] at this
      have HST := Lib.hid hst
      have HYL := Lib.hid hy
      clear hst
      go_quiet (fail)
      go_wp2_with fail
      obtain ⟨W4, hW4⟩ : ∃ W, W = W3.drewN nq := ⟨_, rfl⟩
      rw [← hW4]
      have B4 : Below W3.heap.size W3 W4 := by rw [hW4]; exact below_drewN (Below.refl _ _) nq
      have K4 := Lib.hid (K3.out.bel B4)
      have X1 : W4.rangeAt yb 0 [.int .i64 y1, .int .i64 y2] := box_range (L := [.int .i64 y1, .int .i64 y2]) (below_heap B4 YB.out) 0 _ (fun j v h => by rw [Nat.zero_add]; exact h)
      have e0 : W4.cell? ⟨eb, 0, none⟩ = some (.int .i64 hn) := by have := below_heap B4 EB.out; simp only [World.cell?, this]; rfl
      have c6 := K4.out.c.2.2.2.2.2
      have CP : Hid (Calls Try.prog 94 #[.pointer (some ⟨g, 0, none⟩), .agg #[.int .i64 hn, .int .i64 y1, .int .i64 y2]] W4.drew (PushA 131 135 lessK w.heap.size W4.drew g S nx ck ⟨hn, y1, y2⟩)) :=
        pushA_K (w := W4.drew) K4.out.q.drew (fun x hx h => by have := HNX.out x hx; omega) hn0 hn1 hc0 hc1 hlen ⟨hn, y1, y2⟩
      clear w1 c3 b0 hW4 B4 g1
      refine start_ (n := 9) (S := fun w' => w'.cell? ⟨s, 6, none⟩ = some (.pointer (some ⟨g, 0, none⟩)) ∧ w'.cell? ⟨eb, 0, none⟩ = some (.int .i64 hn) ∧ w'.rangeAt yb 0 [.int .i64 y1, .int .i64 y2]) (ds := [8]) #[false, false, false, false, false, false, false, false, false] (by kernel_rfl) rfl rfl ⟨c6, e0, X1⟩ (fun hHeld => ?_)
      refine pure_ (i := 0) (N := some 31) (v := ?_) (a' := ?_) #[true, false, false, false, false, false, false, false, false] rfl rfl (by kernel_rfl) (fun _ _ _ h => h) (Or.inl ⟨by rfl, ?_⟩) ?_ ?_
      rotate_left
      · intro w'
        go_simp
        with_reducible rfl
      rotate_left
      · simp only [Act.put, List.setIfInBounds_toArray, List.set_cons_zero, List.set_cons_succ, i64_w, i32_w]
        rfl
      refine pure_ (i := 1) (N := some 32) (v := ?_) (a' := ?_) #[true, true, false, false, false, false, false, false, false] rfl rfl (by kernel_rfl) (fun _ _ _ h => h) (Or.inl ⟨by rfl, ?_⟩) ?_ ?_
      rotate_left
      · intro w'
        go_simp
        with_reducible rfl
      rotate_left
      · simp only [Act.put, List.setIfInBounds_toArray, List.set_cons_zero, List.set_cons_succ, i64_w, i32_w]
        rfl
      refine pure_ (i := 2) (N := some 33) (v := ?_) (a' := ?_) #[true, true, true, false, false, false, false, false, false] rfl rfl (by kernel_rfl) (fun _ _ _ h => h) (Or.inl ⟨by rfl, ?_⟩) ?_ ?_
      rotate_left
      · intro w'
        go_simp
        with_reducible rfl
      rotate_left
      · simp only [Act.put, List.setIfInBounds_toArray, List.set_cons_zero, List.set_cons_succ, i64_w, i32_w]
        rfl
      refine pure_ (i := 4) (N := some 35) (v := ?_) (a' := ?_) #[true, true, true, false, true, false, false, false, false] rfl rfl (by kernel_rfl) (fun _ _ _ h => h) (Or.inl ⟨by rfl, ?_⟩) ?_ ?_
      rotate_left
      · intro w'
        go_simp
        with_reducible rfl
      rotate_left
      · simp only [Act.put, List.setIfInBounds_toArray, List.set_cons_zero, List.set_cons_succ, i64_w, i32_w]
        rfl
      refine take_ (i := 3) (N := some 34) (v := ?_) (a' := ?_) #[true, true, true, true, true, false, false, false, false] rfl rfl (by kernel_rfl) (fun _ _ _ h => h) (Or.inl ⟨by rfl, ?_⟩) hHeld ?_ ?_
      rotate_left
      · rintro w' ⟨s0, s1, s2⟩
        go_simp
        with_reducible rfl
      rotate_left
      · simp only [Act.put, List.setIfInBounds_toArray, List.set_cons_zero, List.set_cons_succ, i64_w, i32_w]
        rfl
      refine take_ (i := 5) (N := some 36) (v := ?_) (a' := ?_) #[true, true, true, true, true, true, false, false, false] rfl rfl (by kernel_rfl) (fun _ _ _ h => h) (Or.inl ⟨by rfl, ?_⟩) hHeld ?_ ?_
      rotate_left
      · rintro w' ⟨s0, s1, s2⟩
        go_simp
        with_reducible rfl
      rotate_left
      · simp only [Act.put, List.setIfInBounds_toArray, List.set_cons_zero, List.set_cons_succ, i64_w, i32_w]
        rfl
      refine take_ (i := 6) (N := some 37) (a' := ?_) #[true, true, true, true, true, true, true, false, false] rfl rfl (by kernel_rfl) (fun _ _ _ h => h) (yieldsIf_load_mid (by rfl) 54 _ rfl yb 0 (by rfl) [.int .i64 y1, .int .i64 y2] _ (fun w' h => h.2.2) Try.underlying54 rfl (by kernel_rfl)) hHeld ?_ ?_
      rotate_left
      · simp only [Act.put, List.setIfInBounds_toArray, List.set_cons_zero, List.set_cons_succ, i64_w, i32_w]
        rfl
      refine pure_ (i := 7) (N := some 38) (v := ?_) (a' := ?_) #[true, true, true, true, true, true, true, true, false] rfl rfl (by kernel_rfl) (fun _ _ _ h => h) (Or.inl ⟨by rfl, ?_⟩) ?_ ?_
      rotate_left
      · intro w'
        go_simp
        with_reducible rfl
      rotate_left
      · simp only [Act.put, List.setIfInBounds_toArray, List.set_cons_zero, List.set_cons_succ, i64_w, i32_w]
        rfl
      refine last_ (i := 8) (N := some 39) #[true, true, true, true, true, true, true, true, true] rfl rfl (by kernel_rfl) (by decide) (fun K hK => ?_)
      refine goesV_ Try.func94 (by kernel_rfl) rfl #[.pointer (some ⟨g, 0, none⟩), .agg #[.int .i64 hn, .int .i64 y1, .int .i64 y2]] (by rfl) rfl rfl (by rfl) (by simp only [List.map_toArray, List.map_cons, List.map_nil]; rfl) ?_
      with_reducible refine CP.out.mono ?_
      rintro r w7 ⟨rfl, q7, e7⟩
      have Q7 := Lib.hid q7
      have E7 := Lib.hid e7
      clear q7 e7
      refine ⟨_, rfl, ?_⟩
      refine hK.out _ _ ?_
      clear hK K
      refine norm_ (a' := ?_) ?_ ?_
      rotate_left
      · show Act.put _ (some 39) _ = _
        simp only [Act.put, List.setIfInBounds_toArray, List.set_cons_zero, List.set_cons_succ, i64_w, i32_w]
        rfl
      refine done_ (by kernel_rfl) ?_
      clear hHeld
      go_wp2_with fail
      go_end0
      refine ⟨rfl, .inl ⟨⟨by rw [HY.out.1]; exact HYL.out, by rw [HY.out.2.2]; exact HST.out⟩, ?_⟩⟩
      rw [HY.out.1, HY.out.2.1, HY.out.2.2]
      exact (K4.out.bel (Below.refl _ _).drew).effT E7.out Q7.out
  · have g1 : decide (y1 < 1099511627776) = false := decide_eq_false hy
    have HYN : Hid (K.INF ≤ y1) := Int.not_lt.1 hy
    go_quiet (fail)
    go_wp2_with fail
    go_end0
    refine ⟨rfl, .inr ⟨?_, K3.out.bel (below_drewN (Below.refl _ _) nq)⟩⟩
    rw [HY.out.1]
    exact fun h => absurd h.1 (Int.not_lt.2 HYN.out)
end Go.Proofs.Ytepfbhigeghjjaa.Q
