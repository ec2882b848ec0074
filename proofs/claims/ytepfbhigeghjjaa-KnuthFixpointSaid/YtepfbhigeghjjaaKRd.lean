/- Derivable of the reference of chapter 27. -/
import Derived.Test.YtepfbhigeghjjaaKRc
namespace Go.Proofs.Ytepfbhigeghjjaa.Q
open Go.RowKit Go.Proofs.YtepfbhigeghjjaaW.PrintLast
set_option linter.unusedVariables false
set_option linter.unusedSimpArgs false
def boolRow (d : Nat → Bool) (i : Nat) : Value := .bool (d i)
def AllPost (w : World) (d : Nat → Bool) (l : List Int) (r : Ending) (w' : World) : Prop := ∃ b, r = .returned (.bool b) ∧ (b = true ↔ ∀ t ∈ l, d t.toNat = true) ∧ Below w.heap.size w w'
def AllTo (d : Nat → Bool) (l : List Int) (i : Nat) : Prop := ∀ (j : Nat) t, j < i → l[j]? = some t → d t.toNat = true
set_option maxHeartbeats 4000000 in
set_option maxRecDepth 100000 in
theorem all83 {w : World} {A : Option Addr} {cap bd n : Nat} {d : Nat → Bool} (l : List Int) (hA : IntsIn w A l) (hd : w.rowIs bd 4 n (boolRow d)) (hl : ∀ t ∈ l, 0 ≤ t ∧ t < n) (hlen : l.length ≤ 1000000) : Calls Try.prog 83 #[.slice A l.length cap, .slice (some ⟨bd, 0, none⟩) n n] w (AllPost w d l) := by
  have HA := Lib.hid hA
  have HD := Lib.hid hd
  have HL := Lib.hid hl
  clear hA hd hl
  go_enter Try.func83, Try.ntmps83
  go_wp2_with fail
  go_loopg [5] l.length (fun gk s5 wr => ∃ i : Nat, s5 = .int .i64 i ∧ i ≤ l.length ∧ l.length - i ≤ gk ∧ Hid (Below w.heap.size w wr ∧ AllTo d l i))
  case atStart => exact ⟨0, rfl, by omega, by omega, Below.refl _ _, fun j _ h => absurd h (Nat.not_lt_zero j)⟩
  case round =>
    obtain ⟨i, rfl, hi, hk, HR⟩ := hrel
    by_cases hlt : i < l.length
    · have hlz : (i : Int) < (l.length : Int) := by omega
      obtain ⟨t, ht⟩ : ∃ t, l[i]? = some t := ⟨_, List.getElem?_eq_getElem hlt⟩
      obtain ⟨b, o, rfl, c0⟩ := HA.out.c HR.out.1 ht
      have htl := HL.out t (List.mem_of_getElem? ht)
      obtain ⟨tn, rfl⟩ : ∃ tn : Nat, t = tn := ⟨t.toNat, (Int.toNat_of_nonneg htl.1).symm⟩
      have htn : tn < n := by omega
      have htz : (tn : Int) < (n : Int) := by omega
      obtain ⟨x, hx⟩ : ∃ x, d tn = x := ⟨_, rfl⟩
      have c1 : wr.cell? ⟨bd, tn, none⟩ = some (.bool x) := by rw [← hx]; exact (row_below HD.out HR.out.1).cell htn
      have HT := Lib.hid (And.intro ht hx)
      clear ht htl hx
      cases x with
      | false =>
        go_wp2_with fail
        go_ret
        exact ⟨false, rfl, ⟨(fun h => by cases h), fun h => by have := h _ (List.mem_of_getElem? HT.out.1); rw [Int.toNat_natCast, HT.out.2] at this; exact this⟩, HR.out.1⟩
      | true =>
        go_wp2_with fail
        go_roundg (l.length - (i + 1))
        case measure => omega
        case rel => exact ⟨i + 1, by go_num, by omega, by omega, HR.out.1, fun j t' hj ht' => by
          by_cases hji : j = i
          · subst hji
            rw [HT.out.1] at ht'
            cases ht'
            rw [Int.toNat_natCast]
            exact HT.out.2
          · exact HR.out.2 j t' (by omega) ht'⟩
    · have hlz : ¬ (i : Int) < (l.length : Int) := by omega
      obtain rfl : l.length = i := by omega
      go_wp2_with fail
      go_ret
      exact ⟨true, rfl, ⟨fun _ t ht => by
        obtain ⟨j, hj⟩ := List.getElem?_of_mem ht
        exact HR.out.2 j t (List.getElem?_eq_some_iff.1 hj).1 hj, fun _ => rfl⟩, HR.out.1⟩
/-! ### Derivable -/
def cF (d : Nat → Bool) : Nat → Nat
  | 0 => 0
  | n + 1 => cF d n + (if d n = true then 0 else 1)
theorem cF_congr {d e : Nat → Bool} : ∀ n, (∀ i, i < n → d i = e i) → cF d n = cF e n
  | 0, _ => rfl
  | n + 1, h => by
    simp only [cF]
    rw [cF_congr n (fun i hi => h i (by omega)), h n (by omega)]
theorem cF_upd {d : Nat → Bool} {i : Nat} (hd : d i = false) : ∀ n, i < n → cF (K.upd d i true) n < cF d n
  | 0, h => by omega
  | n + 1, h => by
    simp only [cF]
    by_cases hi : i = n
    · subst hi
      rw [K.upd_self, cF_congr (d := K.upd d i true) (e := d) i (fun j hj => K.upd_ne d true (by omega : j ≠ i)), hd]
      simp
    · rw [K.upd_ne _ _ (by omega : n ≠ i)]
      have := cF_upd hd n (by omega)
      omega
structure DSt (w wr : World) (hb bd n ecap : Nat) (A : Option Addr) (es : List REd) (d : Nat → Bool) : Prop where
  hdr : HB wr hb n es.length ecap A
  row : wr.rowIs bd 4 n (boolRow d)
  below : Below w.heap.size w wr
  ge : w.heap.size ≤ bd
section
variable {w wr W : World} {hb bd n ecap : Nat} {A : Option Addr} {es : List REd} {d : Nat → Bool}
theorem DSt.bel (h : DSt w wr hb bd n ecap A es d) (hbl : Below wr.heap.size wr W) : DSt w W hb bd n ecap A es d :=
  ⟨below_heap hbl h.hdr, row_below h.row hbl, h.below.trans (hbl.mono h.below.size), h.ge⟩
theorem DSt.set (h : DSt w wr hb bd n ecap A es d) (i : Nat) : DSt w (wr.setCell ⟨bd, i, none⟩ (.bool true)) hb bd n ecap A es (K.upd d i true) := by
  have he : Eff (fun k => k = bd) wr (wr.setCell ⟨bd, i, none⟩ (.bool true)) := eff_setCell wr bd i _
  obtain ⟨c1, k1, _⟩ := h.row
  exact ⟨he.heap h.hdr (ne_of_type h.hdr k1 (by decide)), (h.row.set i (.bool true)).congr (fun j _ => by show _ = Value.bool (if j = i then true else d j); split <;> rfl), h.below.trans (he.belowB h.below.size (fun k hk => by rw [hk]; exact h.ge)), h.ge⟩
theorem DSt.c (h : DSt w wr hb bd n ecap A es d) : wr.cell? ⟨hb, 0, none⟩ = some (.int .i64 n) ∧ wr.cell? ⟨hb, 1, none⟩ = some (.slice A es.length ecap) := by
  have h1 := h.hdr
  unfold HB at h1
  simp [World.cell?, h1]
end
def ClosedTo (E : List K.Ed) (d : Nat → Bool) (k : Nat) : Prop := ∀ (j : Nat) e, j < k → E[j]? = some e → (∀ t ∈ e.tails, d t = true) → d e.head = true
theorem ClosedTo.next {E : List K.Ed} {d : Nat → Bool} {k : Nat} {e : K.Ed} (h : ClosedTo E d k) (he : E[k]? = some e) (hn : (∀ t ∈ e.tails, d t = true) → d e.head = true) : ClosedTo E d (k + 1) := fun j e' hj he' => by
  by_cases hjk : j = k
  · subst hjk
    rw [he] at he'
    cases he'
    exact hn
  · exact h j e' (by omega) he'
def SweepD (E : List K.Ed) (n s0 k : Nat) (d : Nat → Bool) (more : Bool) : Prop := (more = false ∧ cF d n = s0 ∧ ClosedTo E d k) ∨ (more = true ∧ cF d n < s0)
def DerPost (w : World) (n : Nat) (E : List K.Ed) (r : Ending) (w' : World) : Prop :=
  ∃ (bd : Nat) (d : Nat → Bool), r = .returned (.slice (some ⟨bd, 0, none⟩) n n) ∧ (∀ e ∈ E, (∀ t ∈ e.tails, d t = true) → d e.head = true) ∧ w'.rowIs bd 4 n (boolRow d) ∧ Below w.heap.size w w' ∧ w.heap.size ≤ bd
set_option maxHeartbeats 8000000 in
set_option maxRecDepth 100000 in
theorem derivable55 {w : World} {n ecap : Nat} {A : Option Addr} {es : List REd} (hA : EdsIn w A es) (hok : ∀ e ∈ es, e.ok n) (hn : n ≤ 1000) (hm : es.length ≤ 1000) :
    Calls Try.prog 55 #[.agg #[.int .i64 n, .slice A es.length ecap]] w (DerPost w n (es.map REd.plain)) := by
  have HA := Lib.hid hA
  have HOK := Lib.hid hok
  clear hA hok
  have hmk := makeB n (by omega)
  obtain ⟨W3, hW3⟩ : ∃ W, W = (w.alloc (.cells #[.int .i64 n, .slice A es.length ecap] 48)).alloc (oB n) := ⟨_, rfl⟩
  obtain ⟨hb, hhb⟩ : ∃ b, b = w.heap.size := ⟨_, rfl⟩
  obtain ⟨bd, hbd⟩ : ∃ b, b = w.heap.size + 1 := ⟨_, rfl⟩
  have R3 : Hid (DSt w W3 hb bd n ecap A es (fun _ => false)) := by
    have B := (((Below.refl w.heap.size w).alloc (Nat.le_refl _) (.cells #[.int .i64 n, .slice A es.length ecap] 48)).alloc (by simp) (oB n))
    have s1 : (w.alloc (.cells #[.int .i64 n, .slice A es.length ecap] 48)).heap.size = w.heap.size + 1 := by simp
    have h1 := (eff_alloc _ (oB n)).heap (heap_alloc_new w (.cells #[.int .i64 n, .slice A es.length ecap] 48)) (fun h => h)
    have h2 := heap_alloc_new (w.alloc (.cells #[.int .i64 n, .slice A es.length ecap] 48)) (oB n)
    rw [s1] at h2
    rw [hW3, hhb, hbd]
    exact ⟨h1, row_of h2, B, by omega⟩
  have HW := Lib.hid (And.intro hW3 (And.intro hhb hbd))
  clear hW3 hhb hbd
  go_enter Try.func55, Try.ntmps55
  go_wp2_with fail
  rw [← HW.out.1, ← HW.out.2.2, ← HW.out.2.1]
  clear hmk
  obtain ⟨M, hM⟩ : ∃ M, M = 2 * cF (fun _ => false) n + 1 := ⟨_, rfl⟩
  have HM := Lib.hid hM
  clear hM
  go_loopg [4] M (fun gk s4 wr => ∃ (more : Bool) (d : Nat → Bool), s4 = .bool more ∧ Hid (2 * cF d n + (if more then 1 else 0) ≤ gk ∧ DSt w wr hb bd n ecap A es d ∧ (more = false → ClosedTo (es.map REd.plain) d es.length)))
  case atStart => exact ⟨true, fun _ => false, rfl, by rw [HM.out]; exact Nat.le_refl _, R3.out, fun h => by cases h⟩
  case round =>
    clear R3 HM HW
    obtain ⟨more, d, rfl, HR⟩ := hrel
    cases more with
    | false =>
      go_wp2_with fail
      go_ret
      refine ⟨bd, d, rfl, fun e he => ?_, HR.out.2.1.row, HR.out.2.1.below, HR.out.2.1.ge⟩
      obtain ⟨j, hj⟩ := List.getElem?_of_mem he
      exact HR.out.2.2 (by first | rfl | trivial) j e (by have := (List.getElem?_eq_some_iff.1 hj).1; rwa [List.length_map] at this) hj
    | true =>
      obtain ⟨s0, hs0⟩ : ∃ s0, cF d n = s0 := ⟨_, rfl⟩
      have I5 : Hid (SweepD (es.map REd.plain) n s0 0 d false) := .inl ⟨rfl, hs0, fun j e hj => absurd hj (Nat.not_lt_zero _)⟩
      have HG : Hid (2 * s0 + 1 ≤ gk) := by rw [← hs0]; exact HR.out.1
      have R5 : Hid (DSt w wr hb bd n ecap A es d) := HR.out.2.1
      obtain ⟨d0, hd0⟩ : ∃ d0, d0 = d := ⟨_, rfl⟩
      rw [← hd0] at R5 I5
      clear HR hs0 hd0
      clear d
      go_wp2_with fail
      go_loopg [4, 5] es.length (fun gj s4 s5 wr => ∃ (k : Nat) (more : Bool) (d : Nat → Bool), s4 = .bool more ∧ s5 = .int .i64 k ∧ k ≤ es.length ∧ es.length - k ≤ gj ∧ Hid (DSt w wr hb bd n ecap A es d ∧ SweepD (es.map REd.plain) n s0 k d more))
      case atStart => exact ⟨0, false, d0, rfl, rfl, by omega, by omega, R5.out, I5.out⟩
      case round =>
        clear R5 I5
        obtain ⟨k, more, d, rfl, rfl, hi, hk, HR⟩ := hrel
        have RR : Hid (DSt w wr hb bd n ecap A es d) := HR.out.1
        have SW := Lib.hid HR.out.2
        obtain ⟨y0, y1⟩ := RR.out.c
        clear HR
        by_cases hlt : k < es.length
        · have hlz : (k : Int) < (es.length : Int) := by omega
          obtain ⟨e, he⟩ : ∃ e, es[k]? = some e := ⟨_, List.getElem?_eq_getElem hlt⟩
          have hok := HOK.out e (List.mem_of_getElem? he)
          have hti := HA.out.tails e (List.mem_of_getElem? he)
          obtain ⟨b, o, rfl, z0, z1, z2, z3, z4⟩ := HA.out.c RR.out.below he
          have HEK : Hid ((es.map REd.plain)[k]? = some e.plain) := by show _ = _; rw [List.getElem?_map, he]; rfl
          obtain ⟨hn', hhn⟩ : ∃ x, e.head.toNat = x := ⟨_, rfl⟩
          have hhe : e.head = (hn' : Int) := by rw [← hhn, Int.toNat_of_nonneg hok.1]
          have hhl : hn' < n := by have := hok.2.1; omega
          have hhz : (hn' : Int) < (n : Int) := by omega
          have hph : e.plain.head = hn' := hhn
          rw [hhe] at z0
          obtain ⟨W2, hW2⟩ : ∃ W, W = wr.alloc (.cells #[.int .i64 hn', .slice e.A e.tails.length e.cap, .int .i64 e.cost, .int .i64 e.l0, .int .i64 e.l1] 60) := ⟨_, rfl⟩
          obtain ⟨xb, hxb⟩ : ∃ b, b = wr.heap.size := ⟨_, rfl⟩
          have B2 : Below wr.heap.size wr W2 := by rw [hW2]; exact (Below.refl _ _).alloc (Nat.le_refl _) _
          have X2 : Hid (W2.heap[xb]? = some (.cells #[.int .i64 hn', .slice e.A e.tails.length e.cap, .int .i64 e.cost, .int .i64 e.l0, .int .i64 e.l1] 60 (0, 0))) := by show _ = _; rw [hW2, hxb]; exact heap_alloc_new wr _
          have R2 := Lib.hid (RR.out.bel B2)
          obtain ⟨x, hx⟩ : ∃ x, d hn' = x := ⟨_, rfl⟩
          have a1 : (wr.alloc (.cells #[.int .i64 hn', .slice e.A e.tails.length e.cap, .int .i64 e.cost, .int .i64 e.l0, .int .i64 e.l1] 60)).cell? ⟨bd, hn', none⟩ = some (.bool x) := by rw [← hW2, ← hx]; exact R2.out.row.cell hhl
          have CA := Lib.hid (all83 (cap := e.cap) e.tails ((hti.below RR.out.below).below B2) R2.out.row hok.2.2.1 (by have := hok.2.2.2.2.2; omega))
          have HC := Lib.hid (And.intro hx hph)
          have HW2 := Lib.hid (And.intro hW2 hxb)
          have HTL : Hid ((∀ t ∈ e.tails, d t.toNat = true) ↔ ∀ t ∈ e.plain.tails, d t = true) := by
            constructor
            · intro h t ht
              obtain ⟨t0, h0, rfl⟩ := List.mem_map.1 ht
              exact h t0 h0
            · intro h t ht
              exact h _ (List.mem_map.2 ⟨t, ht, rfl⟩)
          clear RR he hok hti hhn hhe hph hW2 hxb B2 hx
          cases x with
          | true =>
            have SN : Hid (SweepD (es.map REd.plain) n s0 (k + 1) d more) := SW.out.imp (fun ⟨h1, h2, h3⟩ => ⟨h1, h2, h3.next HEK.out (fun _ => by rw [HC.out.2]; exact HC.out.1)⟩) id
            go_wp2_with fail
            rw [← HW2.out.1]
            go_roundg (es.length - (k + 1))
            case measure => omega
            case rel => exact ⟨k + 1, more, d, rfl, by go_num, by omega, by omega, R2.out, SN.out⟩
          | false =>
            go_wp2_with fail
            rw [← HW2.out.1, ← HW2.out.2]
            clear z0 z1 z2 z3 z4 y0 y1 a1
            with_reducible refine CA.out.mono ?_
            rintro r w8 ⟨b, rfl, hb8, b8⟩
            have R8 := Lib.hid (R2.out.bel b8)
            have X8 := Lib.hid (below_heap b8 X2.out)
            have HB8 := Lib.hid hb8
            clear hb8 b8 R2 X2
            cases b with
            | false =>
              have SN : Hid (SweepD (es.map REd.plain) n s0 (k + 1) d more) := SW.out.imp (fun ⟨h1, h2, h3⟩ => ⟨h1, h2, h3.next HEK.out (fun h => by have := HB8.out.2 (HTL.out.2 h); cases this)⟩) id
              go_wp2_with fail
              go_roundg (es.length - (k + 1))
              case measure => omega
              case rel => exact ⟨k + 1, more, d, rfl, by go_num, by omega, by omega, R8.out, SN.out⟩
            | true =>
              have SN : Hid (SweepD (es.map REd.plain) n s0 (k + 1) (K.upd d hn' true) true) := by
                have h2 := cF_upd HC.out.1 n hhl
                refine .inr ⟨rfl, ?_⟩
                rcases SW.out with h3 | h3
                · rw [← h3.2.1]; exact h2
                · exact Nat.lt_trans h2 h3.2
              have x0 : w8.cell? ⟨xb, 0, none⟩ = some (.int .i64 hn') := by simp only [World.cell?, X8.out]; rfl
              have u1 : w8.cell? ⟨bd, hn', none⟩ = some (.bool false) := by have := R8.out.row.cell hhl; unfold boolRow at this; rwa [HC.out.1] at this
              have u2 : w8.frozen? ⟨bd, hn', none⟩ = false := R8.out.row.frozen hn'
              go_wp2_with fail
              go_roundg (es.length - (k + 1))
              case measure => omega
              case rel => exact ⟨k + 1, true, _, rfl, by go_num, by omega, by omega, R8.out.set hn', SN.out⟩
        · have hlz : ¬ (k : Int) < (es.length : Int) := by omega
          obtain rfl : es.length = k := by omega
          go_wp2_with fail
          go_roundg (2 * cF d n + (if more then 1 else 0))
          case measure =>
            rcases SW.out with ⟨rfl, h2, _⟩ | ⟨rfl, h2⟩
            · have := HG.out
              simp only [Bool.false_eq_true, if_false]
              omega
            · have := HG.out
              simp only [if_true]
              omega
          case rel => exact ⟨more, d, rfl, Nat.le_refl _, RR.out, fun h => by
            rcases SW.out with ⟨_, _, h2⟩ | ⟨h1, _⟩
            · exact h2
            · rw [h1] at h; cases h⟩
end Go.Proofs.Ytepfbhigeghjjaa.Q
