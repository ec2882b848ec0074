/- The queue at K.K3: the way down. -/
import Derived.Test.YtepfbhigeghjjaaQKs
import Derived.Test.YtepfbhigeghjjaaQKb
import Derived.Test.YtepfbhigeghjjaaQ4
namespace Go.Proofs.Ytepfbhigeghjjaa.Q
open Go.RowKit Go.Proofs.YtepfbhigeghjjaaW.PrintLast
set_option linter.unusedVariables false
set_option linter.unusedSimpArgs false

/-! ### down -/
set_option maxHeartbeats 2000000 in
set_option maxRecDepth 100000 in
theorem down_K {B : Nat} {w : World} {g mb : Nat} {hv : Value} {es : List (En K.K3)} {nx ck : Int} (hq : IsQ 131 135 lessK B w g hv mb es nx ck) (i : Nat) (hx : HeapD es i) (hi : i ≤ 1000000000) (hlen : es.length ≤ 1000000000) :
    Calls Try.prog 96 #[.pointer (some ⟨g, 0, none⟩), .int .i64 i] w (DownPost 131 135 lessK B w g hv mb es nx ck) := by
  have H0 : Hid (IsQ 131 135 lessK B w g hv mb es nx ck ∧ es.Perm es ∧ HeapD es i ∧ Eff (fun k => some k = hv.ownBlock ∨ k = mb) w w) := ⟨hq, List.Perm.refl _, hx, Eff.refl _ _⟩
  obtain ⟨A, cap, hvA⟩ : ∃ A cap, hv = .slice A es.length cap := Row.slice hq.row
  have HV := Lib.hid hvA
  clear hq hx hvA
  go_enter Try.func96, Try.ntmps96
  go_wp2_with fail
  go_loopg [1] es.length (fun m si wr => ∃ (i' : Nat) (es' : List (En K.K3)), si = .int .i64 i' ∧ i' ≤ 1000000000 ∧ es.length - i' ≤ m ∧ Hid (IsQ 131 135 lessK B wr g hv mb es' nx ck ∧ es'.Perm es ∧ HeapD es' i' ∧ Eff (fun k => some k = hv.ownBlock ∨ k = mb) w wr))
  case atStart => exact ⟨i, es, rfl, hi, by omega, H0⟩
  case round =>
    clear H0
    obtain ⟨i', es', rfl, hib, hm, HR⟩ := hrel
    have hle : es'.length = es.length := HR.out.2.1.length_eq
    have HLE := Lib.hid hle
    clear hle
    obtain ⟨wo, hwo⟩ : ∃ wo : World, wo = wr := ⟨_, rfl⟩
    have E0 : Hid (Eff (fun _ => False) wr wr) := Eff.refl _ _
    go_wp2_with fail
    go_loopg [5, 4] 3 (fun m2 sk sl wi => ∃ (c l : Nat), sk = .int .i64 c ∧ sl = .int .i64 l ∧ 2 * i' + 1 ≤ c ∧ c ≤ 2 * i' + 3 ∧ 2 * i' + 3 - c ≤ m2 ∧ l ≤ 2 * i' + 2 ∧ Hid (Least es' i' c l ∧ Eff (fun _ => False) wr wi))
    case atStart => exact ⟨2 * i' + 1, i', by go_num, rfl, Nat.le_refl _, by omega, by omega, by omega, ⟨least_start es' i', E0.out⟩⟩
    case round =>
      obtain ⟨c, l, rfl, rfl, hc1, hc2, hm2, hl2, HL⟩ := hrel
      have HQ : Hid (IsQ 131 135 lessK B wr g hv mb es' nx ck) := HR.out.1.eff HL.out.2 (fun _ _ h => h)
      have d1 : wr.cell? ⟨g, 1, none⟩ = some (.slice A es.length cap) := by rw [← HV.out]; exact blk_cell1 HQ.out.blk
      by_cases hk : c ≤ 2 * i' + 2 ∧ c < es.length
      · obtain ⟨hk1, hk2⟩ := hk
        obtain ⟨a, ha⟩ : ∃ a, es'[c]? = some a := ⟨_, List.getElem?_eq_getElem (by rw [HLE.out]; exact hk2)⟩
        obtain ⟨b, hb⟩ : ∃ b, es'[l]? = some b := ⟨_, List.getElem?_eq_getElem (by rw [HLE.out]; have := HL.out.1.lt; omega)⟩
        have CB := Lib.hid (before_K HQ.out c l a b ha hb (by rw [HLE.out]; exact hlen))
        have HA := Lib.hid ha
        have HBb := Lib.hid hb
        have g1 : (c : Int) ≤ 2 * (i' : Int) + 2 := by omega
        have g2 : (c : Int) < (es.length : Int) := by omega
        clear ha hb
        go_wp2_with fail
        refine CB.out.mono ?_
        rintro r w1 ⟨rfl, hb1⟩
        have HB1 := Lib.hid hb1
        clear hb1
        rcases Bool.eq_false_or_eq_true (bef a b) with h1 | h1
        · rw [h1]
          have H1 := Lib.hid h1
          clear h1
          go_wp2_with fail
          go_roundg (2 * i' + 3 - (c + 1))
          case measure => omega
          case rel => exact ⟨c + 1, c, by go_num, rfl, by omega, by omega, by omega, by omega, ⟨HL.out.1.yes (by omega) HA.out HBb.out H1.out, HL.out.2.trans (T := fun _ => False) (Eff.of_below HB1.out _) (fun _ h => h.elim)⟩⟩
        · rw [h1]
          have H1 := Lib.hid h1
          clear h1
          go_wp2_with fail
          go_roundg (2 * i' + 3 - (c + 1))
          case measure => omega
          case rel => exact ⟨c + 1, l, by go_num, rfl, by omega, by omega, by omega, by omega, ⟨HL.out.1.no HA.out HBb.out H1.out, HL.out.2.trans (T := fun _ => False) (Eff.of_below HB1.out _) (fun _ h => h.elim)⟩⟩
      · have HK : Hid (∀ x, 0 < x → x < es'.length → (x - 1) / 2 = i' → x < c) := fun x h0 hx hp => by rw [HLE.out] at hx; omega
        have HK2 : Hid (c ≤ 2 * i' + 2 → ¬ c < es.length) := fun h h2 => hk ⟨h, h2⟩
        clear hk
        have hfin : ∀ W : World, True := fun _ => trivial
        clear hfin
        by_cases hk1 : c ≤ 2 * i' + 2
        · have g1 : (c : Int) ≤ 2 * (i' : Int) + 2 := by omega
          have g2 : ¬ (c : Int) < (es.length : Int) := by have := HK2.out hk1; omega
          by_cases hli : l = i'
          · have g3 : (l : Int) = (i' : Int) := by omega
            have G3 := Lib.hid g3
            have g4 : ((l : Int) == (i' : Int)) = true := by simpa using g3
            have HLI := Lib.hid hli
            clear g3 hli
            go_wp2_with fail
            go_end0
            refine ⟨rfl, es', HQ.out, HR.out.2.1, heap_of HR.out.2.2.1 ?_, HR.out.2.2.2.trans (T := fun _ => False) HL.out.2 (fun _ h => h.elim)⟩
            intro x h0 hx hp
            have := HL.out.1.min x (.inr ⟨h0, HK.out x h0 hx hp, hx, hp⟩)
            rwa [HLI.out] at this
          · have g4 : ((l : Int) == (i' : Int)) = false := by simp; omega
            obtain ⟨hch, hl0, hll⟩ := HL.out.1.child hli
            obtain ⟨a, ha⟩ : ∃ a, es'[i']? = some a := ⟨_, List.getElem?_eq_getElem (by omega)⟩
            obtain ⟨b, hb⟩ : ∃ b, es'[l]? = some b := ⟨_, List.getElem?_eq_getElem hll⟩
            have HA := Lib.hid ha
            have HBb := Lib.hid hb
            have CS := Lib.hid (swap_K HQ.out i' l a b ha hb (by rw [HLE.out]; exact hlen))
            have HC := Lib.hid (And.intro hch (And.intro hl0 hll))
            clear ha hb hch hl0 hll hli
            go_wp2_with fail
            refine CS.out.mono ?_
            rintro r w2 ⟨rfl, hq2, he2⟩
            have HQ2 := Lib.hid hq2
            have HE2 := Lib.hid he2
            clear hq2 he2
            go_wp2_with fail
            go_roundg (es.length - l)
            case measure =>
              obtain ⟨h1, h2, h3⟩ := HC.out
              rw [HLE.out] at h3
              omega
            case rel =>
              obtain ⟨h1, h2, h3⟩ := HC.out
              refine ⟨l, swp es' i' l, rfl, by rw [HLE.out] at h3; omega, Nat.le_refl _, HQ2.out, swp_perm.trans HR.out.2.1, ?_, ?_⟩
              · exact down_round HR.out.2.2.1 HA.out HBb.out h1 h2 (HL.out.1.less (by omega) _ _ HBb.out HA.out) (fun x h0 hx hp => HL.out.1.min x (.inr ⟨h0, HK.out x h0 hx hp, hx, hp⟩))
              · exact (HR.out.2.2.2.trans (T := fun _ => False) HL.out.2 (fun _ h => h.elim)).trans HE2.out (fun _ h => .inl h)
        · have g1 : ¬ (c : Int) ≤ 2 * (i' : Int) + 2 := by omega
          by_cases hli : l = i'
          · have g3 : (l : Int) = (i' : Int) := by omega
            have G3 := Lib.hid g3
            have g4 : ((l : Int) == (i' : Int)) = true := by simpa using g3
            have HLI := Lib.hid hli
            clear g3 hli
            go_wp2_with fail
            go_end0
            refine ⟨rfl, es', HQ.out, HR.out.2.1, heap_of HR.out.2.2.1 ?_, HR.out.2.2.2.trans (T := fun _ => False) HL.out.2 (fun _ h => h.elim)⟩
            intro x h0 hx hp
            have := HL.out.1.min x (.inr ⟨h0, HK.out x h0 hx hp, hx, hp⟩)
            rwa [HLI.out] at this
          · have g4 : ((l : Int) == (i' : Int)) = false := by simp; omega
            obtain ⟨hch, hl0, hll⟩ := HL.out.1.child hli
            obtain ⟨a, ha⟩ : ∃ a, es'[i']? = some a := ⟨_, List.getElem?_eq_getElem (by omega)⟩
            obtain ⟨b, hb⟩ : ∃ b, es'[l]? = some b := ⟨_, List.getElem?_eq_getElem hll⟩
            have HA := Lib.hid ha
            have HBb := Lib.hid hb
            have CS := Lib.hid (swap_K HQ.out i' l a b ha hb (by rw [HLE.out]; exact hlen))
            have HC := Lib.hid (And.intro hch (And.intro hl0 hll))
            clear ha hb hch hl0 hll hli
            go_wp2_with fail
            refine CS.out.mono ?_
            rintro r w2 ⟨rfl, hq2, he2⟩
            have HQ2 := Lib.hid hq2
            have HE2 := Lib.hid he2
            clear hq2 he2
            go_wp2_with fail
            go_roundg (es.length - l)
            case measure =>
              obtain ⟨h1, h2, h3⟩ := HC.out
              rw [HLE.out] at h3
              omega
            case rel =>
              obtain ⟨h1, h2, h3⟩ := HC.out
              refine ⟨l, swp es' i' l, rfl, by rw [HLE.out] at h3; omega, Nat.le_refl _, HQ2.out, swp_perm.trans HR.out.2.1, ?_, ?_⟩
              · exact down_round HR.out.2.2.1 HA.out HBb.out h1 h2 (HL.out.1.less (by omega) _ _ HBb.out HA.out) (fun x h0 hx hp => HL.out.1.min x (.inr ⟨h0, HK.out x h0 hx hp, hx, hp⟩))
              · exact (HR.out.2.2.2.trans (T := fun _ => False) HL.out.2 (fun _ h => h.elim)).trans HE2.out (fun _ h => .inl h)
end Go.Proofs.Ytepfbhigeghjjaa.Q
