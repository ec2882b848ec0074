/- Solve of the reference: the walk. -/
import Derived.Test.YtepfbhigeghjjaaKRa
import Derived.Test.YtepfbhigeghjjaaKJ
namespace Go.Proofs.Ytepfbhigeghjjaa.Q
open Go.RowKit Go.Proofs.YtepfbhigeghjjaaW.PrintLast
set_option linter.unusedVariables false
set_option linter.unusedSimpArgs false
/-- The reference's Solve in memory. -/
structure RSt (w wr : World) (hb bv be n ecap : Nat) (A : Option Addr) (es : List REd) (v : Nat → K.V) (ef : Nat → Int) : Prop where
  hdr : HB wr hb n es.length ecap A
  vals : ValsAt wr bv n v
  edg : wr.rowIs be 3 n (fun i => .int .i64 (ef i))
  below : Below w.heap.size w wr
  ge : w.heap.size ≤ bv ∧ w.heap.size ≤ be
section
variable {w wr W : World} {hb bv be n ecap : Nat} {A : Option Addr} {es : List REd} {v : Nat → K.V} {ef : Nat → Int}
theorem RSt.bel (h : RSt w wr hb bv be n ecap A es v ef) (hbl : Below wr.heap.size wr W) : RSt w W hb bv be n ecap A es v ef :=
  ⟨below_heap hbl h.hdr, h.vals.eff (Eff.of_below hbl (fun _ => False)) (fun h => h), rowIs_eff h.edg (Eff.of_below hbl (fun _ => False)) (fun h => h), h.below.trans (hbl.mono h.below.size), h.ge⟩
theorem RSt.setV (h : RSt w wr hb bv be n ecap A es v ef) (i : Nat) (hi : i < n) (y : K.V) : RSt w (wr.setCells bv (i * 2) (encV y)) hb bv be n ecap A es (K.upd v i y) ef := by
  have he : Eff (fun k => k = bv) wr (wr.setCells bv (i * 2) (encV y)) := (eff_setCells bv _ (i * 2) wr).1
  obtain ⟨c1, k1, _⟩ := h.edg
  obtain ⟨c5, k5, _⟩ := h.vals.blk
  exact ⟨he.heap h.hdr (ne_of_type h.hdr k5 (by decide)), h.vals.set i hi y, rowIs_eff h.edg he (ne_of_type k1 k5 (by decide)), h.below.trans (he.belowB h.below.size (fun k hk => by rw [hk]; exact h.ge.1)), h.ge⟩
theorem RSt.setEf (h : RSt w wr hb bv be n ecap A es v ef) (i : Nat) (x : Int) : RSt w (wr.setCell ⟨be, i, none⟩ (.int .i64 x)) hb bv be n ecap A es v (K.upd ef i x) := by
  have he : Eff (fun k => k = be) wr (wr.setCell ⟨be, i, none⟩ (.int .i64 x)) := eff_setCell wr be i _
  obtain ⟨c1, k1, _⟩ := h.edg
  obtain ⟨c5, k5, _⟩ := h.vals.blk
  exact ⟨he.heap h.hdr (ne_of_type h.hdr k1 (by decide)), h.vals.eff he (ne_of_type k5 k1 (by decide)), (h.edg.set i (.int .i64 x)).congr (fun j _ => by unfold K.upd; split <;> rfl), h.below.trans (he.belowB h.below.size (fun k hk => by rw [hk]; exact h.ge.2)), h.ge⟩
theorem RSt.congr (h : RSt w wr hb bv be n ecap A es v ef) {v' : Nat → K.V} {ef' : Nat → Int} (h2 : ∀ i, i < n → v i = v' i) (h4 : ∀ i, i < n → ef i = ef' i) : RSt w wr hb bv be n ecap A es v' ef' :=
  ⟨h.hdr, h.vals.congr h2, h.edg.congr (fun i hi => by rw [h4 i hi]), h.below, h.ge⟩
theorem RSt.c (h : RSt w wr hb bv be n ecap A es v ef) : wr.cell? ⟨hb, 0, none⟩ = some (.int .i64 n) ∧ wr.cell? ⟨hb, 1, none⟩ = some (.slice A es.length ecap) := by
  have h1 := h.hdr
  unfold HB at h1
  simp [World.cell?, h1]
end
/-- What a hyperedge's tails give, as the reference's calls compute it. -/
theorem tailsV {v : Nat → K.V} (e : REd) : K.combV e.cost (e.tails.map (fun t => v t.toNat)) = K.comb e.plain v := by
  show _ = K.combV e.cost ((e.tails.map Int.toNat).map v)
  rw [List.map_map]
  rfl
/-- The two calls: Tails and Combine. -/
theorem calls_tc {wr : World} {bv n : Nat} {v : Nat → K.V} (hv : ValsAt wr bv n v) (e : REd) (he : IntsIn wr e.A e.tails) (hok : e.ok n) (hvo : ∀ i, i < n → K.OkV (v i)) {y1 y2 : Int} (hy : K.comb e.plain v = (y1, y2)) :
    ∃ l : List K.V, (∀ W : World, Below wr.heap.size wr W → Calls Try.prog 54 #[.agg #[.int .i64 e.head, .slice e.A e.tails.length e.cap, .int .i64 e.cost, .int .i64 e.l0, .int .i64 e.l1], .slice (some ⟨bv, 0, none⟩) n n] W (TailsPost W l)) ∧
      (∀ (W : World) (A : Option Addr) (c : Nat), ValsIn W A l → Calls Try.prog 48 #[.int .i64 e.cost, .slice A l.length c] W fun r w' => r = .returned (.agg #[.int .i64 y1, .int .i64 y2]) ∧ Below W.heap.size W w') := by
  refine ⟨e.tails.map (fun t => v t.toNat), fun W hW => tails54 (hv.eff (Eff.of_below hW (fun _ => False)) (fun h => h)) e (he.below hW) hok.2.2.1 hok.2.2.2.2.2, fun W A c hA => ?_⟩
  have h := combine48 (cap := c) e.cost _ hA hok.2.2.2.1 hok.2.2.2.2.1 (fun x hx => by
    obtain ⟨t, ht, rfl⟩ := List.mem_map.1 hx
    have := hok.2.2.1 t ht
    exact hvo t.toNat (by omega)) (by rw [List.length_map]; have := hok.2.2.2.2.2; omega)
  rw [tailsV, hy] at h
  exact h
/-- No hyperedge before the k-th lowers its head's value. -/
def NoLess (E : List K.Ed) (v : Nat → K.V) (k : Nat) : Prop := ∀ (j : Nat) e, j < k → E[j]? = some e → ¬ K.ltV (K.comb e v) (v e.head)
theorem NoLess.next {E : List K.Ed} {v : Nat → K.V} {k : Nat} {e : K.Ed} (h : NoLess E v k) (he : E[k]? = some e) (hn : ¬ K.ltV (K.comb e v) (v e.head)) : NoLess E v (k + 1) := fun j e' hj he' => by
  by_cases hjk : j = k
  · subst hjk
    rw [he] at he'
    cases he'
    exact hn
  · exact h j e' (by omega) he'
def SweepI (E : List K.Ed) (n s0 k : Nat) (v : Nat → K.V) (more : Bool) : Prop := K.RInv E n v ∧ ((more = false ∧ K.sumV v n = s0 ∧ NoLess E v k) ∨ (more = true ∧ K.sumV v n < s0))
set_option maxHeartbeats 8000000 in
set_option maxRecDepth 100000 in
theorem solve51 {w : World} {n ecap : Nat} {A : Option Addr} {es : List REd} (hA : EdsIn w A es) (hok : ∀ e ∈ es, e.ok n) (hn : n ≤ 1000) (hm : es.length ≤ 1000) :
    Calls Try.prog 51 #[.agg #[.int .i64 n, .slice A es.length ecap]] w (SolvePost w n (es.map REd.plain)) := by
  have HA := Lib.hid hA
  have HOK := Lib.hid hok
  have HEE : Hid (∀ e ∈ es.map REd.plain, K.OkE n e) := edges_ok hok
  clear hA hok
  have a1 : ((w.alloc (.cells #[.int .i64 n, .slice A es.length ecap] 48)).alloc (oV n)).cell? ⟨w.heap.size, 0, none⟩ = some (.int .i64 n) := by
    have := (eff_alloc (w.alloc (.cells #[.int .i64 n, .slice A es.length ecap] 48)) (oV n)).heap (heap_alloc_new w (.cells #[.int .i64 n, .slice A es.length ecap] 48)) (fun h => h)
    simp only [World.cell?, this]
    rfl
  have hmk := makeI n (by omega)
  have hmv := makeV n (by omega)
  obtain ⟨W3, hW3⟩ : ∃ W, W = ((w.alloc (.cells #[.int .i64 n, .slice A es.length ecap] 48)).alloc (oV n)).alloc (oI n) := ⟨_, rfl⟩
  obtain ⟨hb, hhb⟩ : ∃ b, b = w.heap.size := ⟨_, rfl⟩
  obtain ⟨bv, hbv⟩ : ∃ b, b = w.heap.size + 1 := ⟨_, rfl⟩
  obtain ⟨be, hbe⟩ : ∃ b, b = w.heap.size + 1 + 1 := ⟨_, rfl⟩
  have R3 : Hid (RSt w W3 hb bv be n ecap A es (v1 0) (e1 0)) := by
    have B := ((((Below.refl w.heap.size w).alloc (Nat.le_refl _) (.cells #[.int .i64 n, .slice A es.length ecap] 48)).alloc (by simp) (oV n)).alloc (by simp; omega) (oI n))
    have s1 : (w.alloc (.cells #[.int .i64 n, .slice A es.length ecap] 48)).heap.size = w.heap.size + 1 := by simp
    have s2 : ((w.alloc (.cells #[.int .i64 n, .slice A es.length ecap] 48)).alloc (oV n)).heap.size = w.heap.size + 1 + 1 := by simp
    have h1 := (eff_alloc _ (oI n)).heap ((eff_alloc _ (oV n)).heap (heap_alloc_new w (.cells #[.int .i64 n, .slice A es.length ecap] 48)) (fun h => h)) (fun h => h)
    have h2 := (eff_alloc _ (oI n)).heap (heap_alloc_new (w.alloc (.cells #[.int .i64 n, .slice A es.length ecap] 48)) (oV n)) (fun h => h)
    have h3 := heap_alloc_new ((w.alloc (.cells #[.int .i64 n, .slice A es.length ecap] 48)).alloc (oV n)) (oI n)
    rw [s1] at h2
    rw [s2] at h3
    rw [hW3, hhb, hbv, hbe]
    exact ⟨h1, (vals_of h2).congr (fun i _ => by unfold v1; rw [if_neg (Nat.not_lt_zero _)]), (row_of h3).congr (fun i _ => by unfold e1; rw [if_neg (Nat.not_lt_zero _)]), B, by omega, by omega⟩
  have HW := Lib.hid (And.intro hW3 (And.intro hhb (And.intro hbv hbe)))
  clear hW3 hhb hbv hbe
  go_enter Try.func51, Try.ntmps51
  go_wp2_with fail
  rw [← HW.out.1, ← HW.out.2.2.2, ← HW.out.2.2.1, ← HW.out.2.1]
  clear a1 hmk hmv
  go_loopg [6] n (fun k si wr => ∃ i : Nat, si = .int .i64 i ∧ i ≤ n ∧ n - i ≤ k ∧ Hid (RSt w wr hb bv be n ecap A es (v1 i) (e1 i)))
  case atStart => exact ⟨0, rfl, by omega, by omega, R3.out⟩
  case round =>
    clear R3 HW
    obtain ⟨i, rfl, hi, hk, HR⟩ := hrel
    obtain ⟨y0, y1⟩ := HR.out.c
    by_cases hlt : i < n
    · have hlz : (i : Int) < (n : Int) := by omega
      obtain ⟨o1, ho1⟩ : ∃ x, (v1 i i).1 = x := ⟨_, rfl⟩
      obtain ⟨o2, ho2⟩ : ∃ x, (v1 i i).2 = x := ⟨_, rfl⟩
      obtain ⟨o3, ho3⟩ : ∃ x, e1 i i = x := ⟨_, rfl⟩
      have x1 : wr.cell? ⟨bv, i * 2, none⟩ = some (.int .i64 o1) := by rw [← ho1]; exact HR.out.vals.at_ i hlt 0 _ rfl
      have x2 : wr.cell? ⟨bv, i * 2 + 1, none⟩ = some (.int .i64 o2) := by rw [← ho2]; exact HR.out.vals.at_ i hlt 1 _ rfl
      have f1 : wr.frozen? ⟨bv, i * 2, none⟩ = false := HR.out.vals.frozen _
      have f2 : wr.frozen? ⟨bv, i * 2 + 1, none⟩ = false := HR.out.vals.frozen _
      have k1 := HR.out.setV i hlt (1099511627776, 0)
      have hk1 : wr.setCells bv (i * 2) (encV (1099511627776, 0)) = (wr.setCell ⟨bv, i * 2, none⟩ (.int .i64 1099511627776)).setCell ⟨bv, i * 2 + 1, none⟩ (.int .i64 0) := rfl
      rw [hk1] at k1
      have x3 : ((wr.setCell ⟨bv, i * 2, none⟩ (.int .i64 1099511627776)).setCell ⟨bv, i * 2 + 1, none⟩ (.int .i64 0)).cell? ⟨be, i, none⟩ = some (.int .i64 o3) := by rw [← ho3]; exact k1.edg.cell hlt
      have f3 : ((wr.setCell ⟨bv, i * 2, none⟩ (.int .i64 1099511627776)).setCell ⟨bv, i * 2 + 1, none⟩ (.int .i64 0)).frozen? ⟨be, i, none⟩ = false := k1.edg.frozen i
      have KK := Lib.hid (k1.setEf i (-1))
      clear hk1 k1 ho1 ho2 ho3
      go_wp2_with fail
      go_roundg (n - (i + 1))
      case measure => omega
      case rel =>
        refine ⟨i + 1, by go_num, by omega, by omega, KK.out.congr (fun j hj => ?_) (fun j hj => ?_)⟩
        · unfold K.upd v1
          by_cases h1 : j = i
          · rw [if_pos h1, if_pos (by omega)]
          · rw [if_neg h1]
            by_cases h2 : j < i
            · rw [if_pos h2, if_pos (by omega)]
            · rw [if_neg h2, if_neg (by omega)]
        · unfold K.upd e1
          by_cases h1 : j = i
          · rw [if_pos h1, if_pos (by omega)]
          · rw [if_neg h1]
            by_cases h2 : j < i
            · rw [if_pos h2, if_pos (by omega)]
            · rw [if_neg h2, if_neg (by omega)]
    · have hlz : ¬ (i : Int) < (n : Int) := by omega
      obtain rfl : n = i := by omega
      go_wp2_with fail
      have R4 : Hid (RSt w wr hb bv be n ecap A es (fun _ => (1099511627776, 0)) (fun _ => -1)) := HR.out.congr (fun j hj => by unfold v1; rw [if_pos hj]) (fun j hj => by unfold e1; rw [if_pos hj])
      clear HR hi hk hlt hlz y0 y1
      obtain ⟨M, hM⟩ : ∃ M, M = 2 * K.sumV (fun _ => (1099511627776, 0)) n + 1 := ⟨_, rfl⟩
      have HM := Lib.hid hM
      clear hM
      go_loopg [7] M (fun gk s7 wr => ∃ (more : Bool) (v : Nat → K.V), s7 = .bool more ∧ Hid (2 * K.sumV v n + (if more then 1 else 0) ≤ gk ∧ RSt w wr hb bv be n ecap A es v (fun _ => -1) ∧ K.RInv (es.map REd.plain) n v ∧ (more = false → NoLess (es.map REd.plain) v es.length)))
      case atStart => exact ⟨true, fun _ => (1099511627776, 0), rfl, by rw [HM.out]; exact Nat.le_refl _, R4.out, K.RInv.start _ _, fun h => by cases h⟩
      case round =>
        clear R4 HM
        obtain ⟨more, v, rfl, HR⟩ := hrel
        cases more with
        | false =>
          have R5 : Hid (RSt w wr hb bv be n ecap A es v (fun _ => -1)) := HR.out.2.1
          have FX : Hid (K.Fix (es.map REd.plain) n v) := HR.out.2.2.1.fix (fun j e he => HR.out.2.2.2 rfl j e (by have := (List.getElem?_eq_some_iff.1 he).1; rwa [List.length_map] at this) he)
          clear HR
          obtain ⟨y0, y1⟩ := R5.out.c
          go_wp2_with fail
          clear y0 y1
          go_loopg [11] es.length (fun gj s11 wr => ∃ (z : Int) (j : Nat), s11 = .int .i64 z ∧ z = (j : Int) - 1 ∧ j ≤ es.length ∧ j ≤ gj ∧ Hid (∃ f, RSt w wr hb bv be n ecap A es v f ∧ K.ChosenFrom (es.map REd.plain) n v f j))
          case atStart => exact ⟨_, es.length, rfl, by go_num, by omega, by omega, _, R5.out, by have := K.ChosenFrom.start (es.map REd.plain) n v; rwa [List.length_map] at this⟩
          case round =>
            clear R5
            obtain ⟨z, j, rfl, hz, hi, hk, HR⟩ := hrel
            cases j with
            | zero =>
              obtain rfl : z = -1 := by omega
              obtain ⟨f, R6, ch⟩ := HR.out
              have KK := Lib.hid (And.intro R6 ch)
              clear HR R6 ch hz
              go_wp2_with fail
              refine bodyPost_ret (res_tt (p := 2) (u := 3) rfl _ _) rfl ?_
              exact ⟨bv, be, v, f, rfl, ⟨FX.out, KK.out.2.done⟩, KK.out.1.vals, KK.out.1.edg, KK.out.1.below, KK.out.1.ge.1, KK.out.1.ge.2⟩
            | succ k =>
              obtain rfl : z = (k : Int) := by omega
              obtain ⟨f, R6, ch⟩ := HR.out
              have RR := Lib.hid R6
              have CH := Lib.hid ch
              clear HR R6 ch hz
              have hlt : k < es.length := by omega
              have hkz : (0 : Int) ≤ (k : Int) := by omega
              have hlz : (k : Int) < (es.length : Int) := by omega
              obtain ⟨y0, y1⟩ := RR.out.c
              obtain ⟨e, he⟩ : ∃ e, es[k]? = some e := ⟨_, List.getElem?_eq_getElem hlt⟩
              have hok := HOK.out e (List.mem_of_getElem? he)
              have hti := HA.out.tails e (List.mem_of_getElem? he)
              obtain ⟨b, o, rfl, z0, z1, z2, z3, z4⟩ := HA.out.c RR.out.below he
              have HEK : Hid ((es.map REd.plain)[k]? = some e.plain) := by show _ = _; rw [List.getElem?_map, he]; rfl
              obtain ⟨hn', hhn⟩ : ∃ x, e.head.toNat = x := ⟨_, rfl⟩
              have hhe : e.head = (hn' : Int) := by rw [← hhn, Int.toNat_of_nonneg hok.1]
              have hhl : hn' < n := by have := hok.2.1; omega
              have hph : e.plain.head = hn' := hhn
              obtain ⟨c1, hc1⟩ : ∃ x, (K.comb e.plain v).1 = x := ⟨_, rfl⟩
              obtain ⟨c2, hc2⟩ : ∃ x, (K.comb e.plain v).2 = x := ⟨_, rfl⟩
              have hcomb : K.comb e.plain v = (c1, c2) := Prod.ext hc1 hc2
              obtain ⟨q1, hq1⟩ : ∃ x, (v hn').1 = x := ⟨_, rfl⟩
              obtain ⟨q2, hq2⟩ : ∃ x, (v hn').2 = x := ⟨_, rfl⟩
              have hvv : v hn' = (q1, q2) := Prod.ext hq1 hq2
              rw [hhe] at z0
              obtain ⟨W2, hW2⟩ : ∃ W, W = wr.alloc (.cells #[.int .i64 hn', .slice e.A e.tails.length e.cap, .int .i64 e.cost, .int .i64 e.l0, .int .i64 e.l1] 60) := ⟨_, rfl⟩
              obtain ⟨xb, hxb⟩ : ∃ b, b = wr.heap.size := ⟨_, rfl⟩
              have B2 : Below wr.heap.size wr W2 := by rw [hW2]; exact (Below.refl _ _).alloc (Nat.le_refl _) _
              have X2 : Hid (W2.heap[xb]? = some (.cells #[.int .i64 hn', .slice e.A e.tails.length e.cap, .int .i64 e.cost, .int .i64 e.l0, .int .i64 e.l1] 60 (0, 0))) := by show _ = _; rw [hW2, hxb]; exact heap_alloc_new wr _
              have R2 := RR.out.bel B2
              obtain ⟨W3, hW3⟩ : ∃ W, W = W2.alloc (.cells #[.int .i64 q1, .int .i64 q2] 54) := ⟨_, rfl⟩
              obtain ⟨zb, hzb⟩ : ∃ b, b = wr.heap.size + 1 := ⟨_, rfl⟩
              have B3 : Below W2.heap.size W2 W3 := by rw [hW3]; exact (Below.refl _ _).alloc (Nat.le_refl _) _
              have R3 := R2.bel B3
              have Z3 : Hid (W3.heap[zb]? = some (.cells #[.int .i64 q1, .int .i64 q2] 54 (0, 0))) := by
                show _ = _
                have := heap_alloc_new W2 (.cells #[.int .i64 q1, .int .i64 q2] 54)
                rw [← hW3, show W2.heap.size = zb by rw [hW2, hzb]; simp] at this
                exact this
              have X3 := Lib.hid (below_heap B3 X2.out)
              obtain ⟨l, hct, hc48⟩ := calls_tc R3.vals e (((hti.below RR.out.below).below B2).below B3) hok FX.out.ok hcomb
              rw [hhe] at hct
              have CT : Hid (Calls Try.prog 54 #[.agg #[.int .i64 hn', .slice e.A e.tails.length e.cap, .int .i64 e.cost, .int .i64 e.l0, .int .i64 e.l1], .slice (some ⟨bv, 0, none⟩) n n] W3.drew (TailsPost W3.drew l)) := hct W3.drew (Below.refl _ _).drew
              have C48 := Lib.hid hc48
              have a1 : (wr.alloc (.cells #[.int .i64 hn', .slice e.A e.tails.length e.cap, .int .i64 e.cost, .int .i64 e.l0, .int .i64 e.l1] 60)).cell? ⟨bv, hn' * 2, none⟩ = some (.int .i64 q1) := by rw [← hW2]; have := R2.vals.at_ hn' hhl 0 (.int .i64 q1) (by rw [hvv]; rfl); exact this
              have a2 : (wr.alloc (.cells #[.int .i64 hn', .slice e.A e.tails.length e.cap, .int .i64 e.cost, .int .i64 e.l0, .int .i64 e.l1] 60)).cell? ⟨bv, hn' * 2 + 1, none⟩ = some (.int .i64 q2) := by rw [← hW2]; have := R2.vals.at_ hn' hhl 1 (.int .i64 q2) (by rw [hvv]; rfl); exact this
              have hhz : (hn' : Int) < (n : Int) := by omega
              have RR3 := Lib.hid R3
              have HC := Lib.hid (And.intro hcomb (And.intro hvv hph))
              have HW2 := Lib.hid (And.intro hW2 hxb)
              have HW3 := Lib.hid (And.intro hW3 hzb)
              clear RR he hok hti hhn hhe hph hc1 hc2 hcomb hq1 hq2 hvv hW2 hxb B2 R2 hct hc48 hW3 hzb B3 R3 X2
              go_wp2_with fail
              rw [← HW2.out.1, ← HW3.out.1, ← HW3.out.2, ← HW2.out.2]
              clear z0 z1 z2 z3 z4 y0 y1 a1 a2
              have ZR : W3.rangeAt zb 0 [.int .i64 q1, .int .i64 q2] := box_range (L := [.int .i64 q1, .int .i64 q2]) Z3.out 0 _ (fun j v h => by rw [Nat.zero_add]; exact h)
              have Z0 : W3.cell? ⟨zb, 0, none⟩ = some (.int .i64 q1) := ZR 0 _ rfl
              by_cases hq : q1 < 1099511627776
              · have XR : W3.rangeAt xb 0 [.int .i64 hn', .slice e.A e.tails.length e.cap, .int .i64 e.cost, .int .i64 e.l0, .int .i64 e.l1] := box_range (L := [.int .i64 hn', .slice e.A e.tails.length e.cap, .int .i64 e.cost, .int .i64 e.l0, .int .i64 e.l1]) X3.out 0 _ (fun j v h => by rw [Nat.zero_add]; exact h)
                by_cases g1 : c1 = q1
                · by_cases g2 : c2 = q2
                  · have NX : Hid (K.ChosenFrom (es.map REd.plain) n v (K.upd f hn' k) k) := by
                      have := CH.out.yes HEK.out (by rw [HC.out.1, HC.out.2.2, HC.out.2.1, g1, g2]; exact ⟨hq, rfl⟩)
                      rwa [HC.out.2.2] at this
                    subst g1
                    subst g2
                    refine ref_r23e (fun _ _ _ _ _ h => h) hq XR (XR 2 _ rfl) ZR Z0 CT C48 ?_
                    rintro w8 b8
                    intro t82 t83 t84 t85 t86 t87 t88 t89 t90 t91 t92 t93
                    have R8 := Lib.hid (RR3.out.bel b8)
                    have e0 : w8.cell? ⟨xb, 0, none⟩ = some (.int .i64 hn') := by have := below_heap b8 X3.out; simp only [World.cell?, this]; rfl
                    obtain ⟨fh, hfh⟩ : ∃ x, f hn' = x := ⟨_, rfl⟩
                    have e1 : w8.cell? ⟨be, hn', none⟩ = some (.int .i64 fh) := by rw [← hfh]; exact R8.out.edg.cell hhl
                    have e2 : w8.frozen? ⟨be, hn', none⟩ = false := R8.out.edg.frozen hn'
                    clear hfh b8 XR ZR Z0 hq CT C48
                    go_wp2_with fail
                    go_roundg k
                    case measure => omega
                    case rel => exact ⟨_, k, by go_num, rfl, by omega, by omega, _, R8.out.setEf hn' k, NX.out⟩
                  · have NX : Hid (K.ChosenFrom (es.map REd.plain) n v f k) := CH.out.no HEK.out (fun h => g2 (by
                      have h3 := h.2
                      rw [HC.out.1, HC.out.2.2, HC.out.2.1] at h3
                      exact congrArg Prod.snd h3))
                    refine ref_r23m (fun _ _ _ _ _ h => h) hq (beq_iff_eq.2 g1) (beq_eq_false_iff_ne.2 g2) XR (XR 2 _ rfl) ZR Z0 CT C48 ?_
                    rintro w8 b8
                    intro t82 t83 t84 t85 t86 t87 t88 t89 t90 t91 t92 t93
                    have R8 := Lib.hid (RR3.out.bel b8)
                    clear b8 XR ZR Z0 hq CT C48 g1 g2
                    go_wp2_with fail
                    go_roundg k
                    case measure => omega
                    case rel => exact ⟨_, k, by go_num, rfl, by omega, by omega, _, R8.out, NX.out⟩
                · have NX : Hid (K.ChosenFrom (es.map REd.plain) n v f k) := CH.out.no HEK.out (fun h => g1 (by
                    have h3 := h.2
                    rw [HC.out.1, HC.out.2.2, HC.out.2.1] at h3
                    exact congrArg Prod.fst h3))
                  refine ref_r23n (fun _ _ _ _ _ h => h) hq (beq_eq_false_iff_ne.2 g1) XR (XR 2 _ rfl) ZR Z0 CT C48 ?_
                  rintro w8 b8
                  intro t82 t83 t84 t85 t86 t87 t88 t89 t90 t91 t92 t93
                  have R8 := Lib.hid (RR3.out.bel b8)
                  clear b8 XR ZR Z0 hq CT C48 g1
                  go_wp2_with fail
                  go_roundg k
                  case measure => omega
                  case rel => exact ⟨_, k, by go_num, rfl, by omega, by omega, _, R8.out, NX.out⟩
              · have g1 : decide (q1 < 1099511627776) = false := decide_eq_false hq
                have NX : Hid (K.ChosenFrom (es.map REd.plain) n v f k) := CH.out.no HEK.out (fun h => hq (by
                  have h3 := h.1
                  rw [HC.out.2.2, HC.out.2.1] at h3
                  exact h3))
                clear hq ZR CT C48
                go_quiet (fail)
                go_wp2_with fail
                go_roundg k
                case measure => omega
                case rel => exact ⟨_, k, by go_num, rfl, by omega, by omega, _, RR3.out.bel (below_drewN (Below.refl _ _) nq), NX.out⟩
        | true =>
          have R5 : Hid (RSt w wr hb bv be n ecap A es v (fun _ => -1)) := HR.out.2.1
          obtain ⟨s0, hs0⟩ : ∃ s0, K.sumV v n = s0 := ⟨_, rfl⟩
          have I5 : Hid (SweepI (es.map REd.plain) n s0 0 v false) := ⟨HR.out.2.2.1, .inl ⟨rfl, hs0, fun j e hj => absurd hj (Nat.not_lt_zero _)⟩⟩
          have HG : Hid (2 * s0 + 1 ≤ gk) := by rw [← hs0]; exact HR.out.1
          obtain ⟨v0, hv0⟩ : ∃ v0, v0 = v := ⟨_, rfl⟩
          rw [← hv0] at R5 I5
          clear HR hs0 hv0
          clear v
          go_wp2_with fail
          go_loopg [7, 8] es.length (fun gj s7 s8 wr => ∃ (k : Nat) (more : Bool) (v' : Nat → K.V), s7 = .bool more ∧ s8 = .int .i64 k ∧ k ≤ es.length ∧ es.length - k ≤ gj ∧ Hid (RSt w wr hb bv be n ecap A es v' (fun _ => -1) ∧ SweepI (es.map REd.plain) n s0 k v' more))
          case atStart => exact ⟨0, false, v0, rfl, rfl, by omega, by omega, R5.out, I5.out⟩
          case round =>
            clear R5 I5
            obtain ⟨k, more, v, rfl, rfl, hi, hk, HR⟩ := hrel
            have RR : Hid (RSt w wr hb bv be n ecap A es v (fun _ => -1)) := HR.out.1
            obtain ⟨y0, y1⟩ := RR.out.c
            by_cases hlt : k < es.length
            · have hlz : (k : Int) < (es.length : Int) := by omega
              obtain ⟨e, he⟩ : ∃ e, es[k]? = some e := ⟨_, List.getElem?_eq_getElem hlt⟩
              have hok := HOK.out e (List.mem_of_getElem? he)
              have hti := HA.out.tails e (List.mem_of_getElem? he)
              obtain ⟨b, o, rfl, z0, z1, z2, z3, z4⟩ := HA.out.c RR.out.below he
              have HEK : Hid ((es.map REd.plain)[k]? = some e.plain) := by show _ = _; rw [List.getElem?_map, he]; rfl
              obtain ⟨hn', hhn⟩ : ∃ x, e.head.toNat = x := ⟨_, rfl⟩
              have hhe : e.head = (hn' : Int) := by rw [← hhn, Int.toNat_of_nonneg hok.1]
              have hhl : hn' < n := by have := hok.2.1; omega
              have hph : e.plain.head = hn' := hhn
              obtain ⟨c1, hc1⟩ : ∃ x, (K.comb e.plain v).1 = x := ⟨_, rfl⟩
              obtain ⟨c2, hc2⟩ : ∃ x, (K.comb e.plain v).2 = x := ⟨_, rfl⟩
              have hcomb : K.comb e.plain v = (c1, c2) := Prod.ext hc1 hc2
              obtain ⟨q1, hq1⟩ : ∃ x, (v hn').1 = x := ⟨_, rfl⟩
              obtain ⟨q2, hq2⟩ : ∃ x, (v hn').2 = x := ⟨_, rfl⟩
              have hvv : v hn' = (q1, q2) := Prod.ext hq1 hq2
              rw [hhe] at z0
              obtain ⟨W2, hW2⟩ : ∃ W, W = wr.alloc (.cells #[.int .i64 hn', .slice e.A e.tails.length e.cap, .int .i64 e.cost, .int .i64 e.l0, .int .i64 e.l1] 60) := ⟨_, rfl⟩
              obtain ⟨xb, hxb⟩ : ∃ b, b = wr.heap.size := ⟨_, rfl⟩
              have B2 : Below wr.heap.size wr W2 := by rw [hW2]; exact (Below.refl _ _).alloc (Nat.le_refl _) _
              have X2 : Hid (W2.heap[xb]? = some (.cells #[.int .i64 hn', .slice e.A e.tails.length e.cap, .int .i64 e.cost, .int .i64 e.l0, .int .i64 e.l1] 60 (0, 0))) := by show _ = _; rw [hW2, hxb]; exact heap_alloc_new wr _
              have R2 := RR.out.bel B2
              obtain ⟨l, hct, hc48⟩ := calls_tc R2.vals e ((hti.below RR.out.below).below B2) hok HR.out.2.1.ok hcomb
              rw [hhe] at hct
              have CT := Lib.hid hct
              have C48 := Lib.hid hc48
              have SW := Lib.hid HR.out.2
              have RR2 := Lib.hid R2
              have HC := Lib.hid (And.intro hcomb (And.intro hvv hph))
              have HW2 := Lib.hid (And.intro hW2 hxb)
              clear HR RR he hok hti hhn hhe hph hc1 hc2 hcomb hq1 hq2 hvv hW2 hxb B2 R2 hct hc48
              go_wp2_with fail
              rw [← HW2.out.1, ← HW2.out.2]
              clear z0 z1 z2 z3 z4 y0 y1
              have XR : W2.rangeAt xb 0 [.int .i64 hn', .slice e.A e.tails.length e.cap, .int .i64 e.cost, .int .i64 e.l0, .int .i64 e.l1] := box_range (L := [.int .i64 hn', .slice e.A e.tails.length e.cap, .int .i64 e.cost, .int .i64 e.l0, .int .i64 e.l1]) X2.out 0 _ (fun j v h => by rw [Nat.zero_add]; exact h)
              refine ref_r14 (fun _ _ _ _ _ h => h) XR (XR 2 _ rfl) CT C48 ?_
              rintro yb w8 b8 y8 g8
              intro t46 t47 t48 t49 t50 t51
              clear XR CT C48
              have R8 := Lib.hid (RR2.out.bel b8)
              have X8 := Lib.hid (below_heap b8 X2.out)
              have Y8 := Lib.hid y8
              obtain ⟨L, hL⟩ : ∃ x, decide (c1 < q1 ∨ c1 = q1 ∧ c2 < q2) = x := ⟨_, rfl⟩
              have HL := Lib.hid hL
              clear b8 y8 g8 hL X2 RR2 HW2
              go_wp2_with fail
              refine ref_r15 (hn := hn') (fun _ _ _ _ _ h => h) HL.out (by omega) (box_range (L := [.int .i64 c1, .int .i64 c2]) Y8.out 0 _ (fun j v h => by rw [Nat.zero_add]; exact h)) (by simp only [World.cell?, X8.out]; rfl) (by have := R8.out.vals.at_ hn' hhl; rw [HC.out.2.1] at this; exact this) ?_
              rintro w9 b9
              intro t52 t53 t54 t55 t56 t57
              have R9 := Lib.hid (R8.out.bel b9)
              have X9 := Lib.hid (below_heap b9 X8.out)
              have Y9 := Lib.hid (below_heap b9 Y8.out)
              clear b9 X8 Y8 R8
              cases L with
              | false =>
                have SN : Hid (SweepI (es.map REd.plain) n s0 (k + 1) v more) := ⟨SW.out.1, SW.out.2.imp (fun ⟨h1, h2, h3⟩ => ⟨h1, h2, h3.next HEK.out (by rw [HC.out.1, HC.out.2.2, HC.out.2.1]; exact of_decide_eq_false HL.out)⟩) id⟩
                go_wp2_with fail
                go_roundg (es.length - (k + 1))
                case measure => omega
                case rel => exact ⟨k + 1, more, v, rfl, by go_num, by omega, by omega, R9.out, SN.out⟩
              | true =>
                have hlt2 : K.ltV (K.comb e.plain v) (v e.plain.head) := by rw [HC.out.1, HC.out.2.2, HC.out.2.1]; exact of_decide_eq_true HL.out
                have SN : Hid (SweepI (es.map REd.plain) n s0 (k + 1) (K.upd v hn' (c1, c2)) true) := by
                  have h1 := SW.out.1.step HEE.out (List.mem_of_getElem? HEK.out) hlt2
                  have h2 := SW.out.1.less HEE.out (List.mem_of_getElem? HEK.out) hlt2
                  rw [HC.out.1, HC.out.2.2] at h1 h2
                  refine ⟨h1, .inr ⟨rfl, ?_⟩⟩
                  rcases SW.out.2 with h3 | h3
                  · rw [← h3.2.1]; exact h2
                  · exact Nat.lt_trans h2 h3.2
                have KK := Lib.hid (R9.out.setV hn' hhl (c1, c2))
                have x0 : w9.cell? ⟨xb, 0, none⟩ = some (.int .i64 hn') := by simp only [World.cell?, X9.out]; rfl
                have u1 : w9.cell? ⟨yb, 0, none⟩ = some (.int .i64 c1) := by simp only [World.cell?, Y9.out]; rfl
                have u2 : w9.cell? ⟨yb, 1, none⟩ = some (.int .i64 c2) := by simp only [World.cell?, Y9.out]; rfl
                have x1 : w9.cell? ⟨bv, hn' * 2, none⟩ = some (.int .i64 q1) := by have := R9.out.vals.at_ hn' hhl 0 (.int .i64 q1) (by rw [HC.out.2.1]; rfl); exact this
                have x2 : w9.cell? ⟨bv, hn' * 2 + 1, none⟩ = some (.int .i64 q2) := by have := R9.out.vals.at_ hn' hhl 1 (.int .i64 q2) (by rw [HC.out.2.1]; rfl); exact this
                have f1 : w9.frozen? ⟨bv, hn' * 2, none⟩ = false := R9.out.vals.frozen _
                have f2 : w9.frozen? ⟨bv, hn' * 2 + 1, none⟩ = false := R9.out.vals.frozen _
                have hhz : (hn' : Int) < (n : Int) := by omega
                clear hlt2
                go_wp2_with fail
                go_roundg (es.length - (k + 1))
                case measure => omega
                case rel => exact ⟨k + 1, true, _, rfl, by go_num, by omega, by omega, KK.out, SN.out⟩
            · have hlz : ¬ (k : Int) < (es.length : Int) := by omega
              obtain rfl : es.length = k := by omega
              go_wp2_with fail
              go_roundg (2 * K.sumV v n + (if more then 1 else 0))
              case measure =>
                rcases HR.out.2.2 with ⟨rfl, h2, _⟩ | ⟨rfl, h2⟩
                · have := HG.out
                  simp only [Bool.false_eq_true, if_false]
                  omega
                · have := HG.out
                  simp only [if_true]
                  omega
              case rel => exact ⟨more, v, rfl, Nat.le_refl _, HR.out.1, HR.out.2.1, fun h => by
                rcases HR.out.2.2 with ⟨_, _, h2⟩ | ⟨h1, _⟩
                · exact h2
                · rw [h1] at h; cases h⟩
end Go.Proofs.Ytepfbhigeghjjaa.Q
