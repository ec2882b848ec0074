/- The queue at K.K3: the way up. -/
import Derived.Test.YtepfbhigeghjjaaQKs
import Derived.Test.YtepfbhigeghjjaaQKb
import Derived.Test.YtepfbhigeghjjaaQ4
namespace Go.Proofs.Ytepfbhigeghjjaa.Q
open Go.RowKit Go.Proofs.YtepfbhigeghjjaaW.PrintLast
set_option linter.unusedVariables false
set_option linter.unusedSimpArgs false

/-! ### up -/
set_option maxHeartbeats 2000000 in
set_option maxRecDepth 100000 in
theorem up_K {B : Nat} {w : World} {g mb : Nat} {hv : Value} {es : List (En K.K3)} {nx ck : Int} (hq : IsQ 131 135 lessK B w g hv mb es nx ck) (i : Nat) (e : En K.K3) (hi : es[i]? = some e) (hx : HeapX es i) (hlen : es.length ≤ 1000000000) :
    Calls Try.prog 100 #[.pointer (some ⟨g, 0, none⟩), .int .i64 i] w (UpPost 131 135 lessK B w g hv mb es nx ck i e) := by
  have H0 : Hid (IsQ 131 135 lessK B w g hv mb es nx ck ∧ es.Perm es ∧ HeapX es i ∧ es[i]? = some e ∧ (Kids es i → Kids es i) ∧ Eff (fun k => some k = hv.ownBlock ∨ k = mb) w w) := ⟨hq, List.Perm.refl _, hx, hi, fun h => h, Eff.refl _ _⟩
  clear hq hx hi
  go_enter Try.func100, Try.ntmps100
  go_wp2_with fail
  go_loopg [1] i (fun m si wr => ∃ (i' : Nat) (es' : List (En K.K3)), si = .int .i64 i' ∧ i' ≤ m ∧ Hid (IsQ 131 135 lessK B wr g hv mb es' nx ck ∧ es'.Perm es ∧ HeapX es' i' ∧ es'[i']? = some e ∧ (Kids es i → Kids es' i') ∧ Eff (fun k => some k = hv.ownBlock ∨ k = mb) w wr))
  case atStart => exact ⟨i, es, rfl, Nat.le_refl _, H0⟩
  case round =>
    clear H0
    obtain ⟨i', es', rfl, hm, HR⟩ := hrel
    obtain ⟨hq, hpm, hx, hi, hk, he⟩ := HR.out
    have hil : i' < es'.length := (List.getElem?_eq_some_iff.1 hi).1
    have hle : es'.length ≤ 1000000000 := by rw [hpm.length_eq]; exact hlen
    by_cases h0 : 0 < i'
    · obtain ⟨b, hj⟩ : ∃ b, es'[(i' - 1) / 2]? = some b := ⟨_, List.getElem?_eq_getElem (by omega)⟩
      have CB := Lib.hid (fun W (hW : IsQ 131 135 lessK B W g hv mb es' nx ck) => before_K hW i' ((i' - 1) / 2) e b hi hj hle)
      have CS := Lib.hid (fun W (hW : IsQ 131 135 lessK B W g hv mb es' nx ck) => swap_K hW i' ((i' - 1) / 2) e b hi hj hle)
      have hc : ((i' : Int) - 1) / 2 = (((i' - 1) / 2 : Nat) : Int) := by omega
      have HC := Lib.hid hc
      have hz : (0 : Int) < (i' : Int) := by omega
      have hl2 : (i' : Int) ≤ 1000000000 := by omega
      have HJ := Lib.hid hj
      clear hq hpm hx hi hk he hj hc
      go_wp2_with fail
      rw [HC.out]
      refine (CB.out _ HR.out.1).mono ?_
      rintro r w1 ⟨rfl, hb1⟩
      have HQ1 : Hid (IsQ 131 135 lessK B w1 g hv mb es' nx ck) := HR.out.1.eff (Eff.of_below hb1 (fun _ => False)) (fun _ _ h => h)
      have HB1 := Lib.hid hb1
      clear hb1
      rcases Bool.eq_false_or_eq_true (bef e b) with h1 | h1
      · rw [h1]
        have H1 := Lib.hid h1
        clear h1
        go_wp2_with fail
        rw [HC.out]
        refine (CS.out _ HQ1.out).mono ?_
        rintro r w2 ⟨rfl, hq2, he2⟩
        have HQ2 := Lib.hid hq2
        have HE2 := Lib.hid he2
        clear hq2 he2
        go_wp2_with fail
        go_roundg ((i' - 1) / 2)
        case measure => omega
        case rel =>
          obtain ⟨hq, hpm, hx, hi, hk, he⟩ := HR.out
          refine ⟨(i' - 1) / 2, swp es' i' ((i' - 1) / 2), by rw [HC.out], Nat.le_refl _, HQ2.out, swp_perm.trans hpm, up_round hx h0 hi HJ.out H1.out, by rw [swp_get hi HJ.out, if_pos rfl], fun h => up_kids hx (hk h) h0 hi HJ.out H1.out, ?_⟩
          exact (he.trans (T := fun _ => False) (Eff.of_below HB1.out _) (fun _ h => h.elim)).trans HE2.out (fun _ h => .inl h)
      · rw [h1]
        have H1 := Lib.hid h1
        clear h1
        go_wp2_with fail
        go_end0
        obtain ⟨hq, hpm, hx, hi, hk, he⟩ := HR.out
        refine ⟨rfl, es', i', HQ1.out, hpm, up_stop hx (fun _ => ?_), hi, hk, he.trans (T := fun _ => False) (Eff.of_below HB1.out _) (fun _ h => h.elim)⟩
        intro x y hx' hy'
        rw [HJ.out] at hx'
        rw [hi] at hy'
        cases hx'
        cases hy'
        exact H1.out
    · have hz : ¬ (0 : Int) < (i' : Int) := by omega
      clear hq hpm hx hi hk he
      go_wp2_with fail
      go_end0
      obtain ⟨hq, hpm, hx, hi, hk, he⟩ := HR.out
      exact ⟨rfl, es', i', hq, hpm, up_stop hx (fun h => absurd h h0), hi, hk, he⟩
end Go.Proofs.Ytepfbhigeghjjaa.Q
