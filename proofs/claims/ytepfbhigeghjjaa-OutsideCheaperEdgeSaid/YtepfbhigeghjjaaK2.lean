/- The reference's iteration: what holds behind each step, and why it ends. The choice of the first hyperedges, upwards and downwards. Plain. -/
import Derived.Test.YtepfbhigeghjjaaK1
namespace Go.Proofs.Ytepfbhigeghjjaa.K
set_option linter.unusedVariables false
set_option linter.unusedSimpArgs false
structure RInv (E : List Ed) (n : Nat) (v : Nat → V) : Prop where
  ok : ∀ i, i < n → OkV (v i)
  der : ∀ i, i < n → (v i).1 < INF → Der E i (v i)
  inf : ∀ i, i < n → ¬ (v i).1 < INF → v i = (INF, 0)
theorem RInv.start (E : List Ed) (n : Nat) : RInv E n (fun _ => (INF, 0)) :=
  ⟨fun _ _ => by unfold OkV; decide, fun _ _ h => absurd h (by decide), fun _ _ _ => rfl⟩
theorem RInv.step {E : List Ed} {n : Nat} (hE : ∀ e ∈ E, OkE n e) {v : Nat → V} (h : RInv E n v) {e : Ed} (he : e ∈ E) (hl : ltV (comb e v) (v e.head)) : RInv E n (upd v e.head (comb e v)) := by
  have hc := comb_ok (hE e he) h.ok
  have hf : (comb e v).1 < INF := by
    by_cases hf : (comb e v).1 < INF
    · exact hf
    · have h1 : comb e v = (INF, 0) := combV_inf (hE e he).2.2.1 (hE e he).2.2.2 (map_ok (hE e he) h.ok) hf
      rw [h1] at hl
      have h2 := le_inf (h.ok _ (hE e he).1) (h.inf _ (hE e he).1)
      exact absurd hl h2
  have hsup := combV_super (hE e he).2.2.1 (hE e he).2.2.2 (map_ok (hE e he) h.ok) hf
  refine ⟨fun i hi => ?_, fun i hi hv => ?_, fun i hi hv => ?_⟩
  · by_cases hi2 : i = e.head
    · subst hi2; rw [upd_self]; exact hc
    · rw [upd_ne _ _ hi2]; exact h.ok i hi
  · by_cases hi2 : i = e.head
    · subst hi2
      rw [upd_self]
      exact Der.mk e he v (fun t ht => h.der t ((hE e he).2.1 t ht) (hsup (v t) (List.mem_map.2 ⟨t, ht, rfl⟩)).1)
    · rw [upd_ne _ _ hi2] at hv ⊢; exact h.der i hi hv
  · by_cases hi2 : i = e.head
    · subst hi2; rw [upd_self] at hv; exact absurd hf hv
    · rw [upd_ne _ _ hi2] at hv ⊢; exact h.inf i hi hv
theorem RInv.fix {E : List Ed} {n : Nat} {v : Nat → V} (h : RInv E n v) (hl : ∀ (k : Nat) e, E[k]? = some e → ¬ ltV (comb e v) (v e.head)) : Fix E n v :=
  ⟨h.ok, fun e he => by obtain ⟨k, hk⟩ := List.getElem?_of_mem he; exact hl k e hk, h.der, h.inf⟩
/-! ### Why it ends -/
def wt (a : V) : Nat := a.1.toNat * 1099511627777 + a.2.toNat
def sumV (v : Nat → V) : Nat → Nat
  | 0 => 0
  | n + 1 => sumV v n + wt (v n)
theorem wt_lt {a b : V} (ha : OkV a) (hb : OkV b) (h : ltV a b) : wt a < wt b := by
  unfold wt
  have hI : INF = 1099511627776 := rfl
  unfold OkV at ha hb
  unfold ltV at h
  have h1 : (a.1.toNat : Int) = a.1 := Int.toNat_of_nonneg ha.1
  have h2 : (a.2.toNat : Int) = a.2 := Int.toNat_of_nonneg ha.2.2.1
  have h3 : (b.1.toNat : Int) = b.1 := Int.toNat_of_nonneg hb.1
  have h4 : (b.2.toNat : Int) = b.2 := Int.toNat_of_nonneg hb.2.2.1
  omega
theorem sumV_congr {v w : Nat → V} : ∀ n, (∀ i, i < n → v i = w i) → sumV v n = sumV w n
  | 0, _ => rfl
  | n + 1, h => by
    simp only [sumV]
    rw [sumV_congr n (fun i hi => h i (by omega)), h n (by omega)]
theorem sumV_upd {v : Nat → V} {i : Nat} {y : V} (hl : wt y < wt (v i)) : ∀ n, i < n → sumV (upd v i y) n < sumV v n
  | 0, h => by omega
  | n + 1, h => by
    simp only [sumV]
    by_cases hi : i = n
    · subst hi
      rw [upd_self, sumV_congr (v := upd v i y) (w := v) i (fun j hj => upd_ne v y (by omega : j ≠ i))]
      omega
    · rw [upd_ne _ _ (by omega : n ≠ i)]
      have := sumV_upd hl n (by omega)
      omega
theorem RInv.less {E : List Ed} {n : Nat} (hE : ∀ e ∈ E, OkE n e) {v : Nat → V} (h : RInv E n v) {e : Ed} (he : e ∈ E) (hl : ltV (comb e v) (v e.head)) : sumV (upd v e.head (comb e v)) n < sumV v n :=
  sumV_upd (wt_lt (comb_ok (hE e he) h.ok) (h.ok _ (hE e he).1) hl) n (hE e he).1
/-! ### Choosing -/
structure ChosenTo (E : List Ed) (n : Nat) (v : Nat → V) (f : Nat → Int) (m : Nat) : Prop where
  none : ∀ i, i < n → f i = -1 → ∀ k, k < m → ¬ Att E v i k
  some : ∀ i, i < n → f i ≠ -1 → ∃ k : Nat, f i = k ∧ k < m ∧ Att E v i k ∧ ∀ j, j < k → ¬ Att E v i j
structure ChosenFrom (E : List Ed) (n : Nat) (v : Nat → V) (f : Nat → Int) (m : Nat) : Prop where
  none : ∀ i, i < n → f i = -1 → ∀ k, m ≤ k → ¬ Att E v i k
  some : ∀ i, i < n → f i ≠ -1 → ∃ k : Nat, f i = k ∧ m ≤ k ∧ Att E v i k ∧ ∀ j, m ≤ j → j < k → ¬ Att E v i j
theorem Att.lt {E : List Ed} {v : Nat → V} {i k : Nat} (h : Att E v i k) : k < E.length := by
  obtain ⟨e, h1, _⟩ := h
  exact (List.getElem?_eq_some_iff.1 h1).1
theorem Att.head {E : List Ed} {v : Nat → V} {i k : Nat} {e : Ed} (he : E[k]? = some e) (h : Att E v i k) : e.head = i := by
  obtain ⟨e', h1, h2, _⟩ := h
  rw [he] at h1
  cases h1
  exact h2
theorem ChosenTo.start (E : List Ed) (n : Nat) (v : Nat → V) : ChosenTo E n v (fun _ => -1) 0 :=
  ⟨fun _ _ _ k hk => absurd hk (Nat.not_lt_zero k), fun _ _ h => absurd rfl h⟩
theorem ChosenTo.done {E : List Ed} {n : Nat} {v : Nat → V} {f : Nat → Int} (h : ChosenTo E n v f E.length) : Chosen E n v f :=
  ⟨fun i hi hf k hk => h.none i hi hf k hk.lt hk, fun i hi hf => by obtain ⟨k, h1, _, h2⟩ := h.some i hi hf; exact ⟨k, h1, h2⟩⟩
theorem ChosenTo.yes {E : List Ed} {n : Nat} {v : Nat → V} {f : Nat → Int} {m : Nat} (h : ChosenTo E n v f m) {e : Ed} (he : E[m]? = .some e) (hf : f e.head = -1) (hi0 : e.head < n) (ha : (v e.head).1 < INF ∧ comb e v = v e.head) : ChosenTo E n v (upd f e.head m) (m + 1) := by
  have hA : Att E v e.head m := ⟨e, he, rfl, ha⟩
  constructor
  · intro i hi hfi k hk hatt
    by_cases hi2 : i = e.head
    · subst hi2; rw [upd_self] at hfi; omega
    · rw [upd_ne _ _ hi2] at hfi
      by_cases hkm : k = m
      · subst hkm; exact hi2 (hatt.head he).symm
      · exact h.none i hi hfi k (by omega) hatt
  · intro i hi hfi
    by_cases hi2 : i = e.head
    · subst hi2
      exact ⟨m, by rw [upd_self], by omega, hA, fun j hj => h.none _ hi hf j hj⟩
    · rw [upd_ne _ _ hi2] at hfi ⊢
      obtain ⟨k, h1, h2, h3⟩ := h.some i hi hfi
      exact ⟨k, h1, by omega, h3⟩
theorem ChosenTo.no {E : List Ed} {n : Nat} {v : Nat → V} {f : Nat → Int} {m : Nat} (h : ChosenTo E n v f m) {e : Ed} (he : E[m]? = .some e) (ha : ¬ (f e.head = -1 ∧ (v e.head).1 < INF ∧ comb e v = v e.head)) : ChosenTo E n v f (m + 1) := by
  constructor
  · intro i hi hfi k hk hatt
    by_cases hkm : k = m
    · subst hkm
      obtain ⟨e', h1, h2, h3⟩ := hatt
      rw [he] at h1
      cases h1
      subst h2
      exact ha ⟨hfi, h3⟩
    · exact h.none i hi hfi k (by omega) hatt
  · intro i hi hfi
    obtain ⟨k, h1, h2, h3⟩ := h.some i hi hfi
    exact ⟨k, h1, by omega, h3⟩
theorem ChosenFrom.start (E : List Ed) (n : Nat) (v : Nat → V) : ChosenFrom E n v (fun _ => -1) E.length :=
  ⟨fun _ _ _ k hk h => absurd h.lt (by omega), fun _ _ h => absurd rfl h⟩
theorem ChosenFrom.done {E : List Ed} {n : Nat} {v : Nat → V} {f : Nat → Int} (h : ChosenFrom E n v f 0) : Chosen E n v f :=
  ⟨fun i hi hf k => h.none i hi hf k (Nat.zero_le _), fun i hi hf => by obtain ⟨k, h1, _, h2, h3⟩ := h.some i hi hf; exact ⟨k, h1, h2, fun j hj => h3 j (Nat.zero_le _) hj⟩⟩
theorem ChosenFrom.yes {E : List Ed} {n : Nat} {v : Nat → V} {f : Nat → Int} {m : Nat} (h : ChosenFrom E n v f (m + 1)) {e : Ed} (he : E[m]? = .some e) (ha : (v e.head).1 < INF ∧ comb e v = v e.head) : ChosenFrom E n v (upd f e.head m) m := by
  have hA : Att E v e.head m := ⟨e, he, rfl, ha⟩
  constructor
  · intro i hi hfi k hk hatt
    by_cases hi2 : i = e.head
    · subst hi2; rw [upd_self] at hfi; omega
    · rw [upd_ne _ _ hi2] at hfi
      by_cases hkm : k = m
      · subst hkm; exact hi2 (hatt.head he).symm
      · exact h.none i hi hfi k (by omega) hatt
  · intro i hi hfi
    by_cases hi2 : i = e.head
    · subst hi2
      exact ⟨m, by rw [upd_self], by omega, hA, fun j hj hj2 => by omega⟩
    · rw [upd_ne _ _ hi2] at hfi ⊢
      obtain ⟨k, h1, h2, h3, h4⟩ := h.some i hi hfi
      refine ⟨k, h1, by omega, h3, fun j hj hj2 => ?_⟩
      by_cases hjm : j = m
      · subst hjm
        intro hatt
        exact hi2 (hatt.head he).symm
      · exact h4 j (by omega) hj2
theorem ChosenFrom.no {E : List Ed} {n : Nat} {v : Nat → V} {f : Nat → Int} {m : Nat} (h : ChosenFrom E n v f (m + 1)) {e : Ed} (he : E[m]? = .some e) (ha : ¬ ((v e.head).1 < INF ∧ comb e v = v e.head)) : ChosenFrom E n v f m := by
  have hno : ∀ i, ¬ Att E v i m := by
    rintro i ⟨e', h1, h2, h3⟩
    rw [he] at h1
    cases h1
    subst h2
    exact ha h3
  constructor
  · intro i hi hfi k hk
    by_cases hkm : k = m
    · subst hkm; exact hno i
    · exact h.none i hi hfi k (by omega)
  · intro i hi hfi
    obtain ⟨k, h1, h2, h3, h4⟩ := h.some i hi hfi
    refine ⟨k, h1, by omega, h3, fun j hj hj2 => ?_⟩
    by_cases hjm : j = m
    · subst hjm; exact hno i
    · exact h4 j (by omega) hj2
/-- What Solve gives. -/
structure Sol (E : List Ed) (n : Nat) (v : Nat → V) (f : Nat → Int) : Prop where
  fix : Fix E n v
  cho : Chosen E n v f
theorem Sol.unique {E : List Ed} {n : Nat} (hE : ∀ e ∈ E, OkE n e) {v w : Nat → V} {f g : Nat → Int} (h : Sol E n v f) (k : Sol E n w g) (i : Nat) (hi : i < n) : v i = w i ∧ f i = g i :=
  ⟨h.fix.unique hE k.fix i hi, h.cho.unique hE (fun i hi => h.fix.unique hE k.fix i hi) k.cho i hi⟩
end Go.Proofs.Ytepfbhigeghjjaa.K
