/- Small and Bounded of the references; two equal rows are told equal. -/
import Derived.Test.YtepfbhigeghjjaaKRb
import Derived.Test.YtepfbhigeghjjaaKB
import Derived.Test.YtepfbhigeghjjaaKS
namespace Go.Proofs.Ytepfbhigeghjjaa.Q
open Go.RowKit Go.Proofs.YtepfbhigeghjjaaW.PrintLast
set_option linter.unusedVariables false
set_option linter.unusedSimpArgs false
def SmallH (n : Int) (es : List REd) (m : Nat) : Prop := n = m ∧ 1 ≤ m ∧ m ≤ 30 ∧ es.length ≤ 60 ∧ ∀ e ∈ es, e.ok m
def FewTo (es : List REd) (i : Nat) : Prop := ∀ (j : Nat) e, j < i → es[j]? = some e → e.tails.length ≤ 4
theorem FewTo.all {es : List REd} (h : FewTo es es.length) : ∀ e ∈ es, e.tails.length ≤ 4 := fun e he => by
  obtain ⟨j, hj⟩ := List.getElem?_of_mem he
  exact h j e (List.getElem?_eq_some_iff.1 hj).1 hj
theorem FewTo.next {es : List REd} {i : Nat} {e : REd} (h : FewTo es i) (he : es[i]? = some e) (hk : e.tails.length ≤ 4) : FewTo es (i + 1) := fun j e' hj he' => by
  by_cases hji : j = i
  · subst hji
    rw [he] at he'
    cases he'
    exact hk
  · exact h j e' (by omega) he'
theorem small_of {n : Int} {es : List REd} (h30 : n ≤ 30) (h60 : es.length ≤ 60) (h4 : ∀ e ∈ es, e.tails.length ≤ 4) (h : ValidH n es) : ∃ m, SmallH n es m := by
  obtain ⟨h1, h2⟩ := h
  have hn : n = (n.toNat : Int) := (Int.toNat_of_nonneg (by omega)).symm
  refine ⟨n.toNat, hn, by omega, by omega, h60, fun e he => ?_⟩
  obtain ⟨k1, k2, k3, k4, k5⟩ := h2 e he
  rw [hn] at k2 k3
  exact ⟨k1, k2, k3, k4, k5, h4 e he⟩
set_option maxHeartbeats 4000000 in
set_option maxRecDepth 100000 in
theorem small76 {w : World} {A : Option Addr} {cap : Nat} (n : Int) (es : List REd) (hA : EdsIn w A es) : Calls Try.prog 76 #[.agg #[.int .i64 n, .slice A es.length cap]] w (YesPost w (∃ m, SmallH n es m)) := by
  have HA := Lib.hid hA
  clear hA
  obtain ⟨W1, hW1⟩ : ∃ W, W = w.alloc (.cells #[.int .i64 n, .slice A es.length cap] 48) := ⟨_, rfl⟩
  obtain ⟨hb, hhb⟩ : ∃ b, b = w.heap.size := ⟨_, rfl⟩
  have B1 : Hid (Below w.heap.size w W1) := by rw [hW1]; exact (Below.refl _ _).alloc (Nat.le_refl _) _
  have H1 : Hid (HBZ W1 hb n es.length cap A) := by show W1.heap[hb]? = _; rw [hW1, hhb]; exact heap_alloc_new w _
  have HW1 := Lib.hid (And.intro hW1 hhb)
  clear hW1 hhb
  by_cases h1 : 30 < n
  · go_enter Try.func76, Try.ntmps76
    go_wp2_with fail
    go_ret
    exact ⟨false, rfl, no_, (Below.refl _ _).alloc (Nat.le_refl _) _⟩
  by_cases h2 : (60 : Int) < (es.length : Int)
  · go_enter Try.func76, Try.ntmps76
    go_wp2_with fail
    go_ret
    exact ⟨false, rfl, no_, (Below.refl _ _).alloc (Nat.le_refl _) _⟩
  have HL : Hid (n ≤ 30 ∧ es.length ≤ 60) := ⟨by omega, by omega⟩
  go_enter Try.func76, Try.ntmps76
  go_wp2_with fail
  rw [← HW1.out.1, ← HW1.out.2]
  go_loopg [3] es.length (fun gk s3 wr => ∃ i : Nat, s3 = .int .i64 i ∧ i ≤ es.length ∧ es.length - i ≤ gk ∧ Hid (Below w.heap.size w wr ∧ HBZ wr hb n es.length cap A ∧ FewTo es i))
  case atStart => exact ⟨0, rfl, by omega, by omega, B1.out, H1.out, fun j _ h => absurd h (Nat.not_lt_zero j)⟩
  case round =>
    clear H1 B1 HW1
    obtain ⟨i, rfl, hi, hk, HR⟩ := hrel
    obtain ⟨y0, y1⟩ := HR.out.2.1.c
    by_cases hlt : i < es.length
    · have hlz : (i : Int) < (es.length : Int) := by omega
      obtain ⟨e, he⟩ : ∃ e, es[i]? = some e := ⟨_, List.getElem?_eq_getElem hlt⟩
      obtain ⟨b, o, rfl, z0, z1, z2, z3, z4⟩ := HA.out.c HR.out.1 he
      have HE := Lib.hid he
      clear he
      by_cases g1 : (4 : Int) < (e.tails.length : Int)
      · go_wp2_with fail
        go_ret
        exact ⟨false, rfl, no_, HR.out.1⟩
      have HG : Hid (e.tails.length ≤ 4) := by show _ ≤ _; omega
      go_wp2_with fail
      go_roundg (es.length - (i + 1))
      case measure => omega
      case rel => exact ⟨i + 1, by go_num, by omega, by omega, HR.out.1, HR.out.2.1, HR.out.2.2.next HE.out HG.out⟩
    · have hlz : ¬ (i : Int) < (es.length : Int) := by omega
      obtain rfl : es.length = i := by omega
      have CV := Lib.hid (valid87 (cap := cap) n es (HA.out.below HR.out.1) (by have := HL.out.2; omega) HR.out.2.2.all)
      go_wp2_with fail
      with_reducible refine CV.out.mono ?_
      rintro r w2 ⟨b, rfl, hb2, b2⟩
      have HB2 := Lib.hid (And.intro hb2 b2)
      clear hb2 b2
      go_wp2_with fail
      go_ret
      exact ⟨b, rfl, fun h => small_of HL.out.1 HL.out.2 HR.out.2.2.all (HB2.out.1 h), HR.out.1.trans (HB2.out.2.mono HR.out.1.size)⟩
/-- A hypergraph that the statements speak of: small, and its least values are of a size below Infinite. -/
def BoundedH (n : Int) (es : List REd) (m : Nat) (v : Nat → K.V) (f : Nat → Int) : Prop := SmallH n es m ∧ K.Sol (es.map REd.plain) m v f ∧ ∀ i, i < m → (v i).2 < K.INF
def SizeTo (v : Nat → K.V) (i : Nat) : Prop := ∀ j, j < i → (v j).2 < 1099511627776
set_option maxHeartbeats 4000000 in
set_option maxRecDepth 100000 in
theorem bounded49 {w : World} {A : Option Addr} {cap : Nat} (n : Int) (es : List REd) (hA : EdsIn w A es) : Calls Try.prog 49 #[.agg #[.int .i64 n, .slice A es.length cap]] w (YesPost w (∃ m v f, BoundedH n es m v f)) := by
  have HA := Lib.hid hA
  clear hA
  obtain ⟨W1, hW1⟩ : ∃ W, W = w.alloc (.cells #[.int .i64 n, .slice A es.length cap] 48) := ⟨_, rfl⟩
  obtain ⟨hb, hhb⟩ : ∃ b, b = w.heap.size := ⟨_, rfl⟩
  have B1 : Hid (Below w.heap.size w W1) := by rw [hW1]; exact (Below.refl _ _).alloc (Nat.le_refl _) _
  have H1 : Hid (HBZ W1 hb n es.length cap A) := by show W1.heap[hb]? = _; rw [hW1, hhb]; exact heap_alloc_new w _
  have HW1 := Lib.hid (And.intro hW1 hhb)
  have CS := Lib.hid (small76 (cap := cap) n es (HA.out.below B1.out))
  clear hW1 hhb
  go_enter Try.func49, Try.ntmps49
  go_wp2_with fail
  rw [← HW1.out.1, ← HW1.out.2]
  with_reducible refine CS.out.mono ?_
  rintro r w2 ⟨b, rfl, hb2, b2⟩
  have B2 : Hid (Below w.heap.size w w2) := B1.out.trans (b2.mono B1.out.size)
  have H2 := Lib.hid (H1.out.bel b2)
  have SM := Lib.hid hb2
  clear b2 hb2 H1 B1 HW1 CS
  cases b with
  | false =>
    go_wp2_with fail
    go_ret
    exact ⟨false, rfl, no_, B2.out⟩
  | true =>
    obtain ⟨m, hm⟩ := SM.out rfl
    obtain ⟨rfl, h1, h30, h60, hok⟩ := hm
    have C51 := Lib.hid (solve51 (ecap := cap) (HA.out.below B2.out) hok (by omega) (by omega))
    have HS : Hid (SmallH m es m) := ⟨rfl, h1, h30, h60, hok⟩
    obtain ⟨y0, y1⟩ := H2.out.c
    clear SM hok
    go_wp2_with fail
    with_reducible refine C51.out.mono ?_
    rintro r w3 ⟨bv, be, v, f, rfl, hs, hv, hf, b3, _, _⟩
    have B3 : Hid (Below w.heap.size w w3) := B2.out.trans (b3.mono B2.out.size)
    have HV := Lib.hid hv
    have HSO := Lib.hid hs
    clear b3 hv hs hf y0 y1 C51
    go_wp2_with fail
    go_loopg [5] m (fun gk s5 wr => ∃ i : Nat, s5 = .int .i64 i ∧ i ≤ m ∧ m - i ≤ gk ∧ Hid (Below w.heap.size w wr ∧ ValsAt wr bv m v ∧ SizeTo v i))
    case atStart => exact ⟨0, rfl, by omega, by omega, B3.out, HV.out, fun j h => absurd h (Nat.not_lt_zero j)⟩
    case round =>
      clear B3 HV
      obtain ⟨i, rfl, hi, hk, HR⟩ := hrel
      by_cases hlt : i < m
      · have hlz : (i : Int) < (m : Int) := by omega
        obtain ⟨x, hx⟩ : ∃ x, (v i).2 = x := ⟨_, rfl⟩
        have c1 : wr.cell? ⟨bv, i * 2 + 1, none⟩ = some (.int .i64 x) := by rw [← hx]; exact HR.out.2.1.at_ i hlt 1 _ rfl
        have HX := Lib.hid hx
        clear hx
        by_cases g1 : (1099511627776 : Int) ≤ x
        · go_wp2_with fail
          go_ret
          exact ⟨false, rfl, no_, HR.out.1⟩
        have HG : Hid (x < 1099511627776) := by show _ < _; omega
        go_wp2_with fail
        go_roundg (m - (i + 1))
        case measure => omega
        case rel => exact ⟨i + 1, by go_num, by omega, by omega, HR.out.1, HR.out.2.1, fun j hj => by
          by_cases hji : j = i
          · rw [hji, HX.out]; exact HG.out
          · exact HR.out.2.2 j (by omega)⟩
      · have hlz : ¬ (i : Int) < (m : Int) := by omega
        obtain rfl : m = i := by omega
        go_wp2_with fail
        go_ret
        exact ⟨true, rfl, fun _ => ⟨m, v, f, HS.out, HSO.out, HR.out.2.2⟩, HR.out.1⟩
theorem ValsAt.in_ {W : World} {b n : Nat} {v : Nat → K.V} (h : ValsAt W b n v) : ValsIn W (some ⟨b, 0, none⟩) ((List.range n).map v) := fun j y hy => by
  rw [List.getElem?_map] at hy
  obtain ⟨i, hi, rfl⟩ := Option.map_eq_some_iff.1 hy
  obtain ⟨h1, h2⟩ := List.getElem?_eq_some_iff.1 hi
  rw [List.getElem_range] at h2
  subst h2
  rw [List.length_range] at h1
  refine ⟨b, 0, rfl, ?_⟩
  rw [Nat.zero_add]
  exact h.at_ j h1
theorem ints_in {W : World} {b n : Nat} {f : Nat → Int} (h : W.rowIs b 3 n (fun i => .int .i64 (f i))) : IntsIn W (some ⟨b, 0, none⟩) ((List.range n).map f) := fun j y hy => by
  rw [List.getElem?_map] at hy
  obtain ⟨i, hi, rfl⟩ := Option.map_eq_some_iff.1 hy
  obtain ⟨h1, h2⟩ := List.getElem?_eq_some_iff.1 hi
  rw [List.getElem_range] at h2
  subst h2
  rw [List.length_range] at h1
  refine ⟨b, 0, rfl, ?_⟩
  rw [Nat.zero_add]
  exact h.cell h1
theorem same_vals {w : World} {a b n : Nat} {v : Nat → K.V} (hA : ValsAt w a n v) (hB : ValsAt w b n v) (hn : n ≤ 1000) : Calls Try.prog 52 #[.slice (some ⟨a, 0, none⟩) n n, .slice (some ⟨b, 0, none⟩) n n] w fun r w' => r = .returned (.bool true) ∧ Below w.heap.size w w' := by
  have := same52 (ca := n) (cb := n) _ hA.in_ hB.in_ (by rw [List.length_map, List.length_range]; omega)
  rw [List.length_map, List.length_range] at this
  exact this
theorem same_ints {w : World} {a b n : Nat} {f : Nat → Int} (hA : w.rowIs a 3 n (fun i => .int .i64 (f i))) (hB : w.rowIs b 3 n (fun i => .int .i64 (f i))) (hn : n ≤ 1000) : Calls Try.prog 53 #[.slice (some ⟨a, 0, none⟩) n n, .slice (some ⟨b, 0, none⟩) n n] w fun r w' => r = .returned (.bool true) ∧ Below w.heap.size w w' := by
  have := same53 (ca := n) (cb := n) _ (ints_in hA) (ints_in hB) (by rw [List.length_map, List.length_range]; omega)
  rw [List.length_map, List.length_range] at this
  exact this
theorem row_below {w W : World} {b n : Nat} {t : TypeId} {f : Nat → Value} (h : w.rowIs b t n f) (hb : Below w.heap.size w W) : W.rowIs b t n f := rowIs_eff h (Eff.of_below hb (fun _ => False)) (fun h => h)
theorem ValsAt.bel {w W : World} {b n : Nat} {v : Nat → K.V} (h : ValsAt w b n v) (hb : Below w.heap.size w W) : ValsAt W b n v := h.eff (Eff.of_below hb (fun _ => False)) (fun h => h)
end Go.Proofs.Ytepfbhigeghjjaa.Q
