/- Valid and Small of the reference of chapter 27. -/
import Derived.Test.YtepfbhigeghjjaaKE
import Derived.Test.YtepfbhigeghjjaaKD
namespace Go.Proofs.Ytepfbhigeghjjaa.Q
open Go.RowKit Go.Proofs.YtepfbhigeghjjaaW.PrintLast
set_option linter.unusedVariables false
set_option linter.unusedSimpArgs false
/-- A hypergraph's header, a hyperedge's copy, in a box. -/
def HBZ (wr : World) (hb : Nat) (n : Int) (m ecap : Nat) (A : Option Addr) : Prop := wr.heap[hb]? = some (.cells #[.int .i64 n, .slice A m ecap] 48 (0, 0))
def EBX (wr : World) (eb : Nat) (e : REd) : Prop := wr.heap[eb]? = some (.cells #[.int .i64 e.head, .slice e.A e.tails.length e.cap, .int .i64 e.cost, .int .i64 e.l0, .int .i64 e.l1] 60 (0, 0))
theorem HBZ.c {wr : World} {hb m ecap : Nat} {n : Int} {A : Option Addr} (h : HBZ wr hb n m ecap A) : wr.cell? ⟨hb, 0, none⟩ = some (.int .i64 n) ∧ wr.cell? ⟨hb, 1, none⟩ = some (.slice A m ecap) := by
  unfold HBZ at h
  simp [World.cell?, h]
theorem EBX.c {wr : World} {eb : Nat} {e : REd} (h : EBX wr eb e) : wr.cell? ⟨eb, 0, none⟩ = some (.int .i64 e.head) ∧ wr.cell? ⟨eb, 1, none⟩ = some (.slice e.A e.tails.length e.cap) ∧ wr.cell? ⟨eb, 2, none⟩ = some (.int .i64 e.cost) ∧ wr.cell? ⟨eb, 3, none⟩ = some (.int .i64 e.l0) ∧ wr.cell? ⟨eb, 4, none⟩ = some (.int .i64 e.l1) := by
  unfold EBX at h
  simp [World.cell?, h]
theorem HBZ.bel {wr W : World} {hb m ecap : Nat} {n : Int} {A : Option Addr} (h : HBZ wr hb n m ecap A) (hb' : Below wr.heap.size wr W) : HBZ W hb n m ecap A := below_heap hb' h
theorem EBX.bel {wr W : World} {eb : Nat} {e : REd} (h : EBX wr eb e) (hb' : Below wr.heap.size wr W) : EBX W eb e := below_heap hb' h
/-- A hyperedge's cells where the slice lies. -/
theorem EdsIn.c {w wr : World} {A : Option Addr} {es : List REd} (h : EdsIn w A es) (hb : Below w.heap.size w wr) {k : Nat} {e : REd} (hk : es[k]? = some e) : ∃ b o, A = some ⟨b, o, none⟩ ∧ wr.cell? ⟨b, o + k * 5, none⟩ = some (.int .i64 e.head) ∧ wr.cell? ⟨b, o + k * 5 + 1, none⟩ = some (.slice e.A e.tails.length e.cap) ∧ wr.cell? ⟨b, o + k * 5 + 2, none⟩ = some (.int .i64 e.cost) ∧ wr.cell? ⟨b, o + k * 5 + 3, none⟩ = some (.int .i64 e.l0) ∧ wr.cell? ⟨b, o + k * 5 + 4, none⟩ = some (.int .i64 e.l1) := by
  obtain ⟨b, o, hA, hr⟩ := h.at_ k e hk
  have hr' : wr.rangeAt b (o + k * 5) (encE e) := fun j u hu => (hb.cell (World.block_lt_of_cell? w _ (hr j u hu))).trans (hr j u hu)
  exact ⟨b, o, hA, hr' 0 _ rfl, hr' 1 _ rfl, hr' 2 _ rfl, hr' 3 _ rfl, hr' 4 _ rfl⟩
theorem IntsIn.c {w wr : World} {A : Option Addr} {l : List Int} (h : IntsIn w A l) (hb : Below w.heap.size w wr) {k : Nat} {t : Int} (hk : l[k]? = some t) : ∃ b o, A = some ⟨b, o, none⟩ ∧ wr.cell? ⟨b, o + k, none⟩ = some (.int .i64 t) := by
  obtain ⟨b, o, hA, hr⟩ := h k t hk
  exact ⟨b, o, hA, (hb.cell (World.block_lt_of_cell? w _ hr)).trans hr⟩
def OkZ (n : Int) (e : REd) : Prop := 0 ≤ e.head ∧ e.head < n ∧ (∀ t ∈ e.tails, 0 ≤ t ∧ t < n) ∧ 0 ≤ e.cost ∧ e.cost ≤ 1099511627776
def ValidH (n : Int) (es : List REd) : Prop := 1 ≤ n ∧ ∀ e ∈ es, OkZ n e
def OkTo (n : Int) (es : List REd) (i : Nat) : Prop := ∀ (j : Nat) e, j < i → es[j]? = some e → OkZ n e
def TlTo (n : Int) (l : List Int) (i : Nat) : Prop := ∀ (j : Nat) t, j < i → l[j]? = some t → 0 ≤ t ∧ t < n
theorem OkTo.next {n : Int} {es : List REd} {i : Nat} {e : REd} (h : OkTo n es i) (he : es[i]? = some e) (hk : OkZ n e) : OkTo n es (i + 1) := fun j e' hj he' => by
  by_cases hji : j = i
  · subst hji
    rw [he] at he'
    cases he'
    exact hk
  · exact h j e' (by omega) he'
theorem TlTo.next {n : Int} {l : List Int} {i : Nat} {t : Int} (h : TlTo n l i) (he : l[i]? = some t) (hk : 0 ≤ t ∧ t < n) : TlTo n l (i + 1) := fun j e' hj he' => by
  by_cases hji : j = i
  · subst hji
    rw [he] at he'
    cases he'
    exact hk
  · exact h j e' (by omega) he'
theorem TlTo.all {n : Int} {l : List Int} (h : TlTo n l l.length) : ∀ t ∈ l, 0 ≤ t ∧ t < n := fun t ht => by
  obtain ⟨j, hj⟩ := List.getElem?_of_mem ht
  exact h j t (List.getElem?_eq_some_iff.1 hj).1 hj
theorem OkTo.all {n : Int} {es : List REd} (h : OkTo n es es.length) : ∀ e ∈ es, OkZ n e := fun e he => by
  obtain ⟨j, hj⟩ := List.getElem?_of_mem he
  exact h j e (List.getElem?_eq_some_iff.1 hj).1 hj
def YesPost (w : World) (p : Prop) (r : Ending) (w' : World) : Prop := ∃ b, r = .returned (.bool b) ∧ (b = true → p) ∧ Below w.heap.size w w'
theorem no_ {p : Prop} : false = true → p := fun h => by cases h
set_option maxHeartbeats 4000000 in
set_option maxRecDepth 100000 in
theorem valid87 {w : World} {A : Option Addr} {cap : Nat} (n : Int) (es : List REd) (hA : EdsIn w A es) (hlen : es.length ≤ 1000000) (htl : ∀ e ∈ es, e.tails.length ≤ 4) : Calls Try.prog 87 #[.agg #[.int .i64 n, .slice A es.length cap]] w (YesPost w (ValidH n es)) := by
  have HA := Lib.hid hA
  have HT := Lib.hid htl
  clear hA htl
  obtain ⟨W1, hW1⟩ : ∃ W, W = w.alloc (.cells #[.int .i64 n, .slice A es.length cap] 48) := ⟨_, rfl⟩
  obtain ⟨hb, hhb⟩ : ∃ b, b = w.heap.size := ⟨_, rfl⟩
  have B1 : Hid (Below w.heap.size w W1) := by rw [hW1]; exact (Below.refl _ _).alloc (Nat.le_refl _) _
  have H1 : Hid (HBZ W1 hb n es.length cap A) := by show W1.heap[hb]? = _; rw [hW1, hhb]; exact heap_alloc_new w _
  have HW1 := Lib.hid (And.intro hW1 hhb)
  clear hW1 hhb
  by_cases h1 : n < 1
  · go_enter Try.func87, Try.ntmps87
    go_wp2_with fail
    go_ret
    exact ⟨false, rfl, no_, (Below.refl _ _).alloc (Nat.le_refl _) _⟩
  by_cases h2 : 1048576 < n
  · go_enter Try.func87, Try.ntmps87
    go_wp2_with fail
    go_ret
    exact ⟨false, rfl, no_, (Below.refl _ _).alloc (Nat.le_refl _) _⟩
  go_enter Try.func87, Try.ntmps87
  go_wp2_with fail
  rw [← HW1.out.1, ← HW1.out.2]
  go_loopg [3] es.length (fun gk s3 wr => ∃ i : Nat, s3 = .int .i64 i ∧ i ≤ es.length ∧ es.length - i ≤ gk ∧ Hid (Below w.heap.size w wr ∧ HBZ wr hb n es.length cap A ∧ OkTo n es i))
  case atStart => exact ⟨0, rfl, by omega, by omega, B1.out, H1.out, fun j _ h => absurd h (Nat.not_lt_zero j)⟩
  case round =>
    clear H1 B1 HW1
    obtain ⟨i, rfl, hi, hk, HR⟩ := hrel
    obtain ⟨y0, y1⟩ := HR.out.2.1.c
    by_cases hlt : i < es.length
    · have hlz : (i : Int) < (es.length : Int) := by omega
      obtain ⟨e, he⟩ : ∃ e, es[i]? = some e := ⟨_, List.getElem?_eq_getElem hlt⟩
      obtain ⟨b, o, rfl, z0, z1, z2, z3, z4⟩ := HA.out.c HR.out.1 he
      have htl4 := HT.out e (List.mem_of_getElem? he)
      have HTI := Lib.hid (HA.out.tails e (List.mem_of_getElem? he))
      have HE := Lib.hid he
      obtain ⟨W2, hW2⟩ : ∃ W, W = wr.alloc (.cells #[.int .i64 e.head, .slice e.A e.tails.length e.cap, .int .i64 e.cost, .int .i64 e.l0, .int .i64 e.l1] 60) := ⟨_, rfl⟩
      obtain ⟨eb, heb⟩ : ∃ b, b = wr.heap.size := ⟨_, rfl⟩
      have B2 : Hid (Below wr.heap.size wr W2) := by rw [hW2]; exact (Below.refl _ _).alloc (Nat.le_refl _) _
      have BW : Hid (Below w.heap.size w W2) := HR.out.1.trans (B2.out.mono HR.out.1.size)
      have X2 : Hid (EBX W2 eb e) := by show W2.heap[eb]? = _; rw [hW2, heb]; exact heap_alloc_new wr _
      have H2 : Hid (HBZ W2 hb n es.length cap (some ⟨b, o, none⟩)) := HR.out.2.1.bel B2.out
      have HO := Lib.hid HR.out.2.2
      have a0 : (wr.alloc (.cells #[.int .i64 e.head, .slice e.A e.tails.length e.cap, .int .i64 e.cost, .int .i64 e.l0, .int .i64 e.l1] 60)).cell? ⟨hb, 0, none⟩ = some (.int .i64 n) := by rw [← hW2]; exact H2.out.c.1
      have HW2 := Lib.hid (And.intro hW2 heb)
      clear he hW2 heb HR
      by_cases g1 : e.head < 0
      · go_wp2_with fail
        rw [← HW2.out.1]
        go_ret
        exact ⟨false, rfl, no_, BW.out⟩
      by_cases g2 : n ≤ e.head
      · go_wp2_with fail
        rw [← HW2.out.1]
        go_ret
        exact ⟨false, rfl, no_, BW.out⟩
      by_cases g3 : e.cost < 0
      · go_wp2_with fail
        rw [← HW2.out.1]
        go_ret
        exact ⟨false, rfl, no_, BW.out⟩
      by_cases g4 : 1099511627776 < e.cost
      · go_wp2_with fail
        rw [← HW2.out.1]
        go_ret
        exact ⟨false, rfl, no_, BW.out⟩
      have HG : Hid (0 ≤ e.head ∧ e.head < n ∧ 0 ≤ e.cost ∧ e.cost ≤ 1099511627776) := ⟨by omega, by omega, by omega, by omega⟩
      go_wp2_with fail
      rw [← HW2.out.1, ← HW2.out.2]
      clear z0 z1 z2 z3 z4 g1 g2 g3 g4 y0 y1 a0
      go_loopg [5] e.tails.length (fun gj s5 wr => ∃ j : Nat, s5 = .int .i64 j ∧ j ≤ e.tails.length ∧ e.tails.length - j ≤ gj ∧ Hid (Below w.heap.size w wr ∧ HBZ wr hb n es.length cap (some ⟨b, o, none⟩) ∧ EBX wr eb e ∧ TlTo n e.tails j))
      case atStart => exact ⟨0, rfl, by omega, by omega, BW.out, H2.out, X2.out, fun j _ h => absurd h (Nat.not_lt_zero j)⟩
      case round =>
        clear B2 BW X2 H2 HW2
        obtain ⟨j, rfl, hj, hkj, HJ⟩ := hrel
        obtain ⟨y0, y1⟩ := HJ.out.2.1.c
        obtain ⟨x0, x1, x2, x3, x4⟩ := HJ.out.2.2.1.c
        by_cases hjt : j < e.tails.length
        · have hjz : (j : Int) < (e.tails.length : Int) := by omega
          obtain ⟨t, ht⟩ : ∃ t, e.tails[j]? = some t := ⟨_, List.getElem?_eq_getElem hjt⟩
          obtain ⟨tb, tof, hTA, ct⟩ := HTI.out.c HJ.out.1 ht
          have HTT := Lib.hid ht
          clear ht
          rw [hTA] at x1
          clear hTA
          go_wp2_with fail
          have hjz : (j : Int) < (e.tails.length : Int) := by omega
          by_cases g1 : t < 0
          · have g1' : decide (t < 0) = true := decide_eq_true g1
            go_quiet (fail)
            go_wp2_with fail
            go_ret
            exact ⟨false, rfl, no_, below_drewN HJ.out.1 nq⟩
          by_cases g2 : n ≤ t
          · have g1' : decide (t < 0) = false := decide_eq_false g1
            have g2' : decide (n ≤ t) = true := decide_eq_true g2
            go_quiet (fail)
            go_wp2_with fail
            go_ret
            exact ⟨false, rfl, no_, below_drewN HJ.out.1 nq⟩
          have HG2 : Hid (0 ≤ t ∧ t < n) := ⟨by omega, by omega⟩
          have g1' : decide (t < 0) = false := decide_eq_false g1
          have g2' : decide (n ≤ t) = false := decide_eq_false g2
          go_quiet (fail)
          go_wp2_with fail
          go_roundg (e.tails.length - (j + 1))
          case measure => omega
          case rel => exact ⟨j + 1, by go_num, by omega, by omega, below_drewN HJ.out.1 nq, HJ.out.2.1, HJ.out.2.2.1, HJ.out.2.2.2.next HTT.out HG2.out⟩
        · have hjz : ¬ (j : Int) < (e.tails.length : Int) := by omega
          obtain rfl : e.tails.length = j := by omega
          go_wp2_with fail
          go_roundg (es.length - (i + 1))
          case measure => omega
          case rel => exact ⟨i + 1, by go_num, by omega, by omega, HJ.out.1, HJ.out.2.1, HO.out.next HE.out ⟨HG.out.1, HG.out.2.1, HJ.out.2.2.2.all, HG.out.2.2.1, HG.out.2.2.2⟩⟩
    · have hlz : ¬ (i : Int) < (es.length : Int) := by omega
      obtain rfl : es.length = i := by omega
      go_wp2_with fail
      go_ret
      exact ⟨true, rfl, fun _ => ⟨by omega, HR.out.2.2.all⟩, HR.out.1⟩
end Go.Proofs.Ytepfbhigeghjjaa.Q
