/- Tails of the reference. -/
import Derived.Test.YtepfbhigeghjjaaKE
import Derived.Test.YtepfbhigeghjjaaKD
namespace Go.Proofs.Ytepfbhigeghjjaa.Q
open Go.RowKit Go.Proofs.YtepfbhigeghjjaaW.PrintLast
set_option linter.unusedVariables false
set_option linter.unusedSimpArgs false
def flatV (l : List K.V) : List Value := l.flatMap encV
theorem flatV_length (l : List K.V) : (flatV l).length = l.length * 2 := by
  induction l with
  | nil => rfl
  | cons y l ih => simp only [flatV, List.flatMap_cons, List.length_append, List.length_cons] at ih ⊢; rw [ih]; show 2 + _ = _; omega
theorem flatV_get (l : List K.V) (j : Nat) (y : K.V) (hy : l[j]? = some y) (k : Nat) (u : Value) (hu : (encV y)[k]? = some u) : (flatV l)[j * 2 + k]? = some u := by
  induction l generalizing j with
  | nil => simp at hy
  | cons z l ih =>
    have hk : k < 2 := (List.getElem?_eq_some_iff.1 hu).1
    cases j with
    | zero =>
      cases hy
      simp only [flatV, List.flatMap_cons]
      rw [List.getElem?_append_left (by show 0 * 2 + k < 2; omega), Nat.zero_mul, Nat.zero_add]
      exact hu
    | succ j =>
      simp only [List.getElem?_cons_succ] at hy
      have := ih j hy
      simp only [flatV, List.flatMap_cons] at this ⊢
      rw [List.getElem?_append_right (by show 2 ≤ _; omega), show (j + 1) * 2 + k - (encV z).length = j * 2 + k by show (j + 1) * 2 + k - 2 = _; omega]
      exact this
theorem info54 : ∃ i0, Try.prog.info? 54 = some i0 ∧ i0.zero = some (.agg #[.int .i64 0, .int .i64 0]) ∧ i0.size = 2 ∧ i0.bytes = 16 :=
  info_parts (show (Try.prog.info? 54).map (fun i => (i.zero, i.size, i.bytes)) = some (some (.agg #[.int .i64 0, .int .i64 0]), 2, 16) from by kernel_rfl)
theorem ownV_vals {W : World} {B : Nat} {A : Option Addr} {n c : Nat} {l : List K.V} (h : W.ownsRow B 54 2 (.slice A n c) l.length (flatV l)) : ValsIn W A l := by
  intro j y hy
  have hj := (List.getElem?_eq_some_iff.1 hy).1
  rcases h.2 with ⟨e, h0⟩ | ⟨g, cap, cur, e, _⟩
  · omega
  · cases e
    refine ⟨g, 0, rfl, fun k u hu => ?_⟩
    have := World.ownsRow.cells h (g := g) rfl (j * 2 + k) u (flatV_get l j y hy k u hu)
    rw [Addr.add_mid, Nat.zero_add] at this
    rw [Nat.zero_add]
    exact this
/-- One value more. -/
theorem append54 {W : World} {B : Nat} {A : Option Addr} {c : Nat} {l : List K.V} (h : W.ownsRow B 54 2 (.slice A l.length c) l.length (flatV l)) (hB : B ≤ W.heap.size) (hl : l.length ≤ 1000000) (y1 y2 : Int) :
    ∃ A' c' W', (Builtin.append_ #[62, 62] 62 #[.slice A l.length c, .slice (some ⟨W.heap.size, 0, none⟩) 1 1]).run Try.prog (W.alloc (.cells #[.int .i64 y1, .int .i64 y2] 54)) = .ok (.slice A' (l.length + 1) c') W' ∧
      W'.ownsRow B 54 2 (.slice A' (l ++ [(y1, y2)]).length c') (l ++ [(y1, y2)]).length (flatV (l ++ [(y1, y2)])) ∧ Below B W W' ∧ ∀ (k : Nat) (cs : Array Value) (t : TypeId) (f : Nat × Nat), W.heap[k]? = some (.cells cs t f) → t ≠ 54 → W'.heap[k]? = some (.cells cs t f) := by
  obtain ⟨i0, hi0, hz0, hz1, hz2⟩ := info54
  have hX := heap_alloc_new W (.cells #[.int .i64 y1, .int .i64 y2] 54)
  have hrow : (W.alloc (.cells #[.int .i64 y1, .int .i64 y2] 54)).ownsRow B 54 2 (.slice A l.length c) l.length (flatV l) := by
    refine ⟨h.1, h.2.imp id ?_⟩
    rintro ⟨g, cap, cur, e, hb, hh, h1⟩
    exact ⟨g, cap, cur, e, hb, (eff_alloc W _).heap hh (fun h => h), h1⟩
  obtain ⟨v1, w3, hr3, ho3, hg3, _, _⟩ := run_append_own_at (P := Try.prog) (W.alloc (.cells #[.int .i64 y1, .int .i64 y2] 54)) B 62 62 54 i0 (.agg #[.int .i64 0, .int .i64 0]) 2 16 Try.underlying62 hi0 hz0 hz1 hz2 rfl (by decide) _ l.length (flatV l) hrow
    ⟨W.heap.size, 0, none⟩ 1 1 [.int .i64 y1, .int .i64 y2] rfl (fun j u hu => by rw [Addr.add_mid]; exact box_range (L := [.int .i64 y1, .int .i64 y2]) hX 0 _ (fun j v h => by rw [Nat.zero_add]; exact h) j u hu) (fun u hu => by simp at hu; rcases hu with rfl | rfl <;> rfl) (by simp only [maxLen]; omega) (by omega) (by simp; omega)
  obtain ⟨A', c', hv⟩ := own_slice ho3
  subst hv
  refine ⟨A', c', w3, hr3, ?_, ?_, fun k cs t f hk ht => (Eff.of_grown hg3).heap ((eff_alloc W _).heap hk (fun h => h)) (fun e => ?_)⟩
  · rw [List.length_append]
    have : flatV (l ++ [(y1, y2)]) = flatV l ++ [.int .i64 y1, .int .i64 y2] := by simp [flatV, encV]
    rw [this]
    exact ho3
  · have h1 : Below B W (W.alloc (.cells #[.int .i64 y1, .int .i64 y2] 54)) := (Below.refl _ _).alloc hB _
    refine h1.trans ((Eff.of_grown hg3).belowB (by simp; omega) (fun k hk => ?_))
    exact (World.ownsRow.lt hrow k hk.symm).1
  · have h4 := (eff_alloc W (.cells #[.int .i64 y1, .int .i64 y2] 54)).heap hk (fun h => h)
    rcases hrow.2 with ⟨e2, _⟩ | ⟨g, cap, cur, e2, _, hh, _⟩
    · rw [e2] at e; cases e
    · rw [e2] at e
      have : k = g := by simpa [Value.ownBlock] using e
      subst this
      rw [h4] at hh
      cases hh
      exact ht rfl
structure TInv (w wr : World) (eb : Nat) (E : List Value) (f : Int → K.V) (tails : List Int) (A' : Option Addr) (c' i : Nat) : Prop where
  row : wr.ownsRow w.heap.size 54 2 (.slice A' i c') i (flatV ((tails.map f).take i))
  ebx : wr.heap[eb]? = some (.cells E.toArray 60 (0, 0))
  below : Below w.heap.size w wr
theorem TInv.next {w wr : World} {eb : Nat} {E : List Value} {f : Int → K.V} {tails : List Int} {A' : Option Addr} {c' i : Nat} (h : TInv w wr eb E f tails A' c' i) (hi : i < tails.length) (hl : tails.length ≤ 4) (heb : eb = w.heap.size) {t : Int} (ht : tails[i]? = some t) {y1 y2 : Int} (hy : f t = (y1, y2)) :
    ∃ A2 c2 W', (Builtin.append_ #[62, 62] 62 #[.slice A' i c', .slice (some ⟨wr.heap.size, 0, none⟩) 1 1]).run Try.prog (wr.alloc (.cells #[.int .i64 y1, .int .i64 y2] 54)) = .ok (.slice A2 (i + 1) c2) W' ∧ TInv w W' eb E f tails A2 c2 (i + 1) := by
  have hlen : ((tails.map f).take i).length = i := by rw [List.length_take, List.length_map]; omega
  have hr := h.row
  rw [show ((wr.ownsRow w.heap.size 54 2 (.slice A' i c') i (flatV ((tails.map f).take i))) = (wr.ownsRow w.heap.size 54 2 (.slice A' ((tails.map f).take i).length c') ((tails.map f).take i).length (flatV ((tails.map f).take i)))) by rw [hlen]] at hr
  obtain ⟨A2, c2, W', h1, h2, h3, h4⟩ := append54 hr h.below.size (by rw [hlen]; omega) y1 y2
  rw [hlen] at h1
  have hnx : (tails.map f).take i ++ [(y1, y2)] = (tails.map f).take (i + 1) := by
    rw [List.take_add_one, List.getElem?_map, ht, Option.map_some, hy]
    rfl
  rw [hnx, show ((tails.map f).take (i + 1)).length = i + 1 by rw [List.length_take, List.length_map]; omega] at h2
  exact ⟨A2, c2, W', h1, h2, h4 eb _ _ _ h.ebx (by decide), h.below.trans h3⟩
def TailsPost (w : World) (l : List K.V) (r : Ending) (w' : World) : Prop := ∃ A' c', r = .returned (.slice A' l.length c') ∧ ValsIn w' A' l ∧ Below w.heap.size w w'
set_option maxHeartbeats 4000000 in
set_option maxRecDepth 100000 in
theorem tails54 {w : World} {n bv : Nat} {v : Nat → K.V} (hv : ValsAt w bv n v) (e : REd) (he : IntsIn w e.A e.tails) (hok : ∀ t ∈ e.tails, 0 ≤ t ∧ t < n) (hl : e.tails.length ≤ 4) :
    Calls Try.prog 54 #[.agg #[.int .i64 e.head, .slice e.A e.tails.length e.cap, .int .i64 e.cost, .int .i64 e.l0, .int .i64 e.l1], .slice (some ⟨bv, 0, none⟩) n n] w (TailsPost w (e.tails.map (fun t => v t.toNat))) := by
  obtain ⟨eA, ec, head, tails, cost, l0, l1⟩ := e
  have hl : tails.length ≤ 4 := hl
  have HT : Hid (∀ t ∈ tails, 0 ≤ t ∧ t < n) := hok
  have HE : Hid (IntsIn w eA tails) := he
  have HV := Lib.hid hv
  obtain ⟨W1, hW1⟩ : ∃ W, W = w.alloc (.cells #[.int .i64 head, .slice eA tails.length ec, .int .i64 cost, .int .i64 l0, .int .i64 l1] 60) := ⟨_, rfl⟩
  obtain ⟨eb, heb⟩ : ∃ b, b = w.heap.size := ⟨_, rfl⟩
  have HI : Hid (TInv w W1 eb [.int .i64 head, .slice eA tails.length ec, .int .i64 cost, .int .i64 l0, .int .i64 l1] (fun t => v t.toNat) tails none 0 0) :=
    ⟨⟨rfl, .inl ⟨rfl, rfl⟩⟩, by rw [hW1, heb]; exact heap_alloc_new w _, by rw [hW1]; exact (Below.refl _ _).alloc (Nat.le_refl _) _⟩
  have HW := Lib.hid (And.intro hW1 heb)
  clear hok he hv hW1 heb
  go_enter Try.func54, Try.ntmps54
  go_wp2_with fail
  rw [← HW.out.1, ← HW.out.2]
  go_loopg [5, 6] tails.length (fun k s5 s6 wr => ∃ (i : Nat) (A' : Option Addr) (c' : Nat), s5 = .slice A' i c' ∧ s6 = .int .i64 i ∧ i ≤ tails.length ∧ tails.length - i ≤ k ∧ Hid (TInv w wr eb [.int .i64 head, .slice eA tails.length ec, .int .i64 cost, .int .i64 l0, .int .i64 l1] (fun t => v t.toNat) tails A' c' i))
  case atStart => exact ⟨0, none, 0, rfl, rfl, by omega, by omega, HI⟩
  case round =>
    clear HI
    obtain ⟨i, A', c', rfl, rfl, hi, hk, HR⟩ := hrel
    have xe : wr.cell? ⟨eb, 1, none⟩ = some (.slice eA tails.length ec) := by simp only [World.cell?, HR.out.ebx]; rfl
    by_cases hlt : i < tails.length
    · obtain ⟨t, ht⟩ : ∃ t, tails[i]? = some t := ⟨_, List.getElem?_eq_getElem hlt⟩
      obtain ⟨b, o, rfl, hr⟩ := HE.out i t ht
      obtain ⟨ht0, ht1⟩ := HT.out t (List.mem_of_getElem? ht)
      obtain ⟨tn, rfl⟩ : ∃ tn : Nat, t = tn := ⟨t.toNat, (Int.toNat_of_nonneg ht0).symm⟩
      have htn : tn < n := by omega
      obtain ⟨y1, hy1⟩ : ∃ x, (v tn).1 = x := ⟨_, rfl⟩
      obtain ⟨y2, hy2⟩ : ∃ x, (v tn).2 = x := ⟨_, rfl⟩
      have bel {a : Addr} {u : Value} (h : w.cell? a = some u) : wr.cell? a = some u := (HR.out.below.cell (World.block_lt_of_cell? w _ h)).trans h
      have y0 : wr.cell? ⟨b, o + i, none⟩ = some (.int .i64 tn) := bel hr
      have z1 : wr.cell? ⟨bv, tn * 2, none⟩ = some (.int .i64 y1) := bel (by rw [← hy1]; exact HV.out.at_ tn htn 0 _ rfl)
      have z2 : wr.cell? ⟨bv, tn * 2 + 1, none⟩ = some (.int .i64 y2) := bel (by rw [← hy2]; exact HV.out.at_ tn htn 1 _ rfl)
      obtain ⟨A2, c2, W', hap, hnx⟩ := HR.out.next hlt hl HW.out.2 ht (y1 := y1) (y2 := y2) (by show v (tn : Int).toNat = _; rw [Int.toNat_natCast]; exact Prod.ext hy1 hy2)
      have AP := Lib.hid hap
      have NX := Lib.hid hnx
      have hlz : (i : Int) < (tails.length : Int) := by omega
      have hlz2 : (tn : Int) < (n : Int) := by omega
      clear ht hr ht0 ht1 hy1 hy2 htn bel hap hnx
      go_wp2_with (first | (refine wpL_v (some 24) rfl rfl (exec_append rfl (by rfl) (by rfl) AP.out) ?_))
      go_roundg (tails.length - (i + 1))
      case measure => omega
      case rel => exact ⟨i + 1, A2, c2, rfl, by go_num, by omega, by omega, NX.out⟩
    · have hlz : ¬ (i : Int) < (tails.length : Int) := by omega
      obtain rfl : tails.length = i := by omega
      go_wp2_with fail
      go_ret
      have hrow := HR.out.row
      have h7 : (tails.map (fun t => v t.toNat)).take tails.length = tails.map (fun t => v t.toNat) := List.take_of_length_le (by rw [List.length_map]; exact Nat.le_refl _)
      rw [h7] at hrow
      refine ⟨A', c', by rw [List.length_map]; rfl, ownV_vals (B := w.heap.size) (n := tails.length) (c := c') (by rw [List.length_map]; exact hrow), HR.out.below⟩
end Go.Proofs.Ytepfbhigeghjjaa.Q
