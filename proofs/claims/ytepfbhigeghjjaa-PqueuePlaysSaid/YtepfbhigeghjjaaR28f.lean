/- The reference queue: first. -/
import Derived.Test.YtepfbhigeghjjaaR28a
namespace Go.Proofs.Ytepfbhigeghjjaa.Q
open Go.RowKit Go.Proofs.YtepfbhigeghjjaaW.PrintLast
set_option linter.unusedVariables false
set_option linter.unusedSimpArgs false

/-- The best so far. -/
def BestIs (es : List (En E28)) (i : Nat) (s : Int) : Prop := (i = 0 ∧ s = -1) ∨ ∃ (b : Nat) (e : En E28), s = b ∧ b < i ∧ es[b]? = some e ∧ ∀ c x, c < i → es[c]? = some x → bef x e = false
theorem best_first {es : List (En E28)} (h : 0 < es.length) : BestIs es (0 + 1) (0 : Nat) := by
  refine .inr ⟨0, es[0], rfl, by omega, List.getElem?_eq_getElem h, fun c x hc hx => ?_⟩
  obtain rfl : c = 0 := by omega
  rw [List.getElem?_eq_getElem h] at hx
  cases hx
  rw [nbef_iff]
  omega
theorem best_yes {es : List (En E28)} {i b : Nat} {a e : En E28} (he : es[b]? = some e) (hall : ∀ c x, c < i → es[c]? = some x → bef x e = false) (ha : es[i]? = some a) (h : a.x.key < e.x.key ∨ a.x.key = e.x.key ∧ a.t < e.t) : BestIs es (i + 1) i := by
  refine .inr ⟨i, a, rfl, by omega, ha, fun c x hc hx => ?_⟩
  rw [nbef_iff]
  show ¬ (x.x.key < a.x.key ∨ x.x.key = a.x.key ∧ ((0:Int) < 0 ∨ (0:Int) = 0 ∧ x.t < a.t))
  by_cases hci : c = i
  · subst hci
    rw [ha] at hx
    cases hx
    omega
  · have h1 : ¬ (x.x.key < e.x.key ∨ x.x.key = e.x.key ∧ ((0:Int) < 0 ∨ (0:Int) = 0 ∧ x.t < e.t)) := nbef_iff.1 (hall c x (by omega) hx)
    omega
theorem best_no {es : List (En E28)} {i b : Nat} {a e : En E28} (hbi : b < i) (he : es[b]? = some e) (hall : ∀ c x, c < i → es[c]? = some x → bef x e = false) (ha : es[i]? = some a) (h : ¬ (a.x.key < e.x.key ∨ a.x.key = e.x.key ∧ a.t < e.t)) : BestIs es (i + 1) b := by
  refine .inr ⟨b, e, rfl, by omega, he, fun c x hc hx => ?_⟩
  by_cases hci : c = i
  · subst hci
    rw [ha] at hx
    cases hx
    rw [nbef_iff]
    show ¬ (a.x.key < e.x.key ∨ a.x.key = e.x.key ∧ ((0:Int) < 0 ∨ (0:Int) = 0 ∧ a.t < e.t))
    omega
  · exact hall c x (by omega) hx
theorem best_end {es : List (En E28)} {s : Int} (h : BestIs es es.length s) : (es = [] ∧ s = -1) ∨ ∃ (n : Nat) (e : En E28), s = n ∧ es[n]? = some e ∧ ∀ x ∈ es, bef x e = false := by
  rcases h with ⟨h1, h2⟩ | ⟨b, e, h1, h2, h3, h4⟩
  · exact .inl ⟨List.length_eq_zero_iff.1 h1, h2⟩
  · refine .inr ⟨b, e, h1, h3, fun x hx => ?_⟩
    obtain ⟨c, hc⟩ := List.getElem?_of_mem hx
    exact h4 c x (List.getElem?_eq_some_iff.1 hc).1 hc
set_option maxHeartbeats 4000000 in
set_option maxRecDepth 100000 in
theorem first_R {B : Nat} {w : World} {m : Nat} {hv : Value} {es : List (En E28)} {nx ck : Int} (hq : IsR B w m hv es nx ck) (hlen : es.length ≤ 1000000000) :
    Calls Try.prog 69 #[.pointer (some ⟨m, 0, none⟩)] w (FirstPost w es) := by
  obtain ⟨A, cap, hvA⟩ := Row.slice hq.row
  have c1 : w.cell? ⟨m, 0, none⟩ = some (.slice A es.length cap) := by rw [← hvA]; simp [World.cell?, hq.blk]
  have HQ := Lib.hid hq
  have HV := Lib.hid hvA
  have C1 := Lib.hid c1
  clear hq hvA c1
  go_enter Try.func69, Try.ntmps69
  go_wp2_with fail
  go_loopg [3, 4] es.length (fun k sb si wr => ∃ (i : Nat) (s : Int), sb = .int .i64 s ∧ si = .int .i64 i ∧ i ≤ es.length ∧ es.length - i ≤ k ∧ Hid (BestIs es i s ∧ Eff (fun _ => False) w wr))
  case atStart => exact ⟨0, -1, rfl, rfl, by omega, by omega, .inl ⟨rfl, rfl⟩, Eff.refl _ _⟩
  case round =>
    obtain ⟨i, s, rfl, rfl, hi, hk, HR⟩ := hrel
    have c1 : wr.cell? ⟨m, 0, none⟩ = some (.slice A es.length cap) := HR.out.2.cell C1.out (fun h => h)
    by_cases hlt : i < es.length
    · have hlz : (i : Int) < (es.length : Int) := by omega
      have R := HQ.out.row.eff HR.out.2 (fun _ _ h => h)
      obtain ⟨rb, cap', cur, hv', _, _, _, _, _, _⟩ := R.form (by omega)
      have hvv := HV.out.symm.trans hv'
      cases hvv
      have C1' := Lib.hid c1
      rw [hv'] at R
      have hj1 := hlz
      have RR := Lib.hid R
      clear R hv'
      have HE := Lib.hid HR.out.2
      rcases HR.out.1 with ⟨rfl, rfl⟩ | ⟨b, e, rfl, hbi, he, hall⟩
      · have NX : Hid (BestIs es (0 + 1) (0 : Nat) ∧ Eff (fun _ => False) w wr) := ⟨best_first (by omega), HE.out⟩
        clear HR HE RR
        go_wp2_with fail
        have y0 : wr.cell? ⟨m, 0, none⟩ = some (.slice (some ⟨rb, 0, none⟩) es.length cap) := C1'.out
        go_quiet (fail)
        go_wp2_with fail
        go_roundg (es.length - (0 + 1))
        case measure => omega
        case rel => exact ⟨0 + 1, (0 : Nat), rfl, by go_num, by omega, by omega, ⟨NX.out.1, NX.out.2.drewN nq⟩⟩

      · obtain ⟨a, ha⟩ : ∃ a, es[i]? = some a := ⟨_, List.getElem?_eq_getElem hlt⟩
        have hbl : b < es.length := by omega
        obtain ⟨ak, hak⟩ : ∃ x, a.x.key = x := ⟨_, rfl⟩
        obtain ⟨bk, hbk⟩ : ∃ x, e.x.key = x := ⟨_, rfl⟩
        obtain ⟨at', hat⟩ : ∃ x, a.t = x := ⟨_, rfl⟩
        obtain ⟨bt, hbt⟩ : ∃ x, e.t = x := ⟨_, rfl⟩
        have y1 : wr.cell? ⟨rb, i * 4, none⟩ = some (.int .i64 ak) := by rw [← hak]; exact RR.out.range i a ha 0 _ rfl
        have y2 : wr.cell? ⟨rb, b * 4, none⟩ = some (.int .i64 bk) := by rw [← hbk]; exact RR.out.range b e he 0 _ rfl
        have y3 : wr.cell? ⟨rb, i * 4 + 3, none⟩ = some (.int .i64 at') := by rw [← hat]; exact RR.out.range i a ha 3 _ rfl
        have y4 : wr.cell? ⟨rb, b * 4 + 3, none⟩ = some (.int .i64 bt) := by rw [← hbt]; exact RR.out.range b e he 3 _ rfl
        have YY := Lib.hid (And.intro y1 (And.intro y2 (And.intro y3 y4)))
        have HB := Lib.hid (And.intro he (And.intro hall (And.intro ha (And.intro hak (And.intro hbk (And.intro hat hbt))))))
        clear he hall ha hak hbk hat hbt y1 y2 y3 y4 HR RR
        go_wp2_with fail
        have y0 : wr.cell? ⟨m, 0, none⟩ = some (.slice (some ⟨rb, 0, none⟩) es.length cap) := C1'.out
        obtain ⟨y1, y2, y3, y4⟩ := YY.out
        have hj1 : (i : Int) < (es.length : Int) := by omega
        have hj2 : (b : Int) < (es.length : Int) := by omega
        have hn1 : ¬ (b : Int) < 0 := by omega
        by_cases hl : ak < bk
        · have NX : Hid (BestIs es (i + 1) i ∧ Eff (fun _ => False) w wr) := ⟨best_yes HB.out.1 HB.out.2.1 HB.out.2.2.1 (by obtain ⟨_, _, _, h1, h2, h3, h4⟩ := HB.out; rw [h1, h2]; exact .inl hl), HE.out⟩
          have hg1 : decide (ak < bk) = true := decide_eq_true hl
          have hg0 : decide ((b : Int) < 0) = false := decide_eq_false (by omega)
          go_quiet (fail)
          go_wp2_with fail
          go_roundg (es.length - (i + 1))
          case measure => omega
          case rel => exact ⟨i + 1, i, rfl, by go_num, by omega, by omega, ⟨NX.out.1, NX.out.2.drewN nq⟩⟩

        · by_cases he : ak = bk
          · have hk2 : (ak == bk) = true := beq_iff_eq.2 he
            by_cases ht : at' < bt
            · have NX : Hid (BestIs es (i + 1) i ∧ Eff (fun _ => False) w wr) := ⟨best_yes HB.out.1 HB.out.2.1 HB.out.2.2.1 (by obtain ⟨_, _, _, h1, h2, h3, h4⟩ := HB.out; rw [h1, h2, h3, h4]; exact .inr ⟨he, ht⟩), HE.out⟩
              clear he
              have hg1 : decide (ak < bk) = false := decide_eq_false hl
              have hg2 : decide (at' < bt) = true := decide_eq_true ht
              have hg0 : decide ((b : Int) < 0) = false := decide_eq_false (by omega)
              go_quiet (fail)
              go_wp2_with fail
              go_roundg (es.length - (i + 1))
              case measure => omega
              case rel => exact ⟨i + 1, i, rfl, by go_num, by omega, by omega, ⟨NX.out.1, NX.out.2.drewN nq⟩⟩

            · have NX : Hid (BestIs es (i + 1) b ∧ Eff (fun _ => False) w wr) := ⟨best_no hbi HB.out.1 HB.out.2.1 HB.out.2.2.1 (by obtain ⟨_, _, _, h1, h2, h3, h4⟩ := HB.out; rw [h1, h2, h3, h4]; omega), HE.out⟩
              clear he
              have hg1 : decide (ak < bk) = false := decide_eq_false hl
              have hg2 : decide (at' < bt) = false := decide_eq_false ht
              have hg0 : decide ((b : Int) < 0) = false := decide_eq_false (by omega)
              go_quiet (fail)
              go_wp2_with fail
              go_roundg (es.length - (i + 1))
              case measure => omega
              case rel => exact ⟨i + 1, b, rfl, by go_num, by omega, by omega, ⟨NX.out.1, NX.out.2.drewN nq⟩⟩

          · have hk2 : (ak == bk) = false := beq_eq_false_iff_ne.2 he
            have NX : Hid (BestIs es (i + 1) b ∧ Eff (fun _ => False) w wr) := ⟨best_no hbi HB.out.1 HB.out.2.1 HB.out.2.2.1 (by obtain ⟨_, _, _, h1, h2, h3, h4⟩ := HB.out; rw [h1, h2, h3, h4]; omega), HE.out⟩
            clear he
            have hg1 : decide (ak < bk) = false := decide_eq_false hl
            have hg0 : decide ((b : Int) < 0) = false := decide_eq_false (by omega)
            go_quiet (fail)
            go_wp2_with fail
            go_roundg (es.length - (i + 1))
            case measure => omega
            case rel => exact ⟨i + 1, b, rfl, by go_num, by omega, by omega, ⟨NX.out.1, NX.out.2.drewN nq⟩⟩

    · have hlz : ¬ (i : Int) < (es.length : Int) := by omega
      obtain rfl : i = es.length := by omega
      go_wp2_with fail
      go_ret
      exact ⟨s, rfl, best_end HR.out.1, HR.out.2.below (fun _ h => h.elim)⟩
end Go.Proofs.Ytepfbhigeghjjaa.Q
