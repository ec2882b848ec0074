/- Solve. -/
import Derived.Test.YtepfbhigeghjjaaKL
namespace Go.Proofs.Ytepfbhigeghjjaa.Q
open Go.RowKit Go.Proofs.YtepfbhigeghjjaaW.PrintLast
set_option linter.unusedVariables false
set_option linter.unusedSimpArgs false

def SolvePost (w : World) (n : Nat) (E : List K.Ed) (r : Ending) (w' : World) : Prop :=
  ∃ (bv be : Nat) (v : Nat → K.V) (f : Nat → Int), r = .returned (.tuple #[.slice (some ⟨bv, 0, none⟩) n n, .slice (some ⟨be, 0, none⟩) n n]) ∧ K.Sol E n v f ∧ ValsAt w' bv n v ∧ w'.rowIs be 3 n (fun i => .int .i64 (f i)) ∧ Below w.heap.size w w' ∧ w.heap.size ≤ bv ∧ w.heap.size ≤ be
def v1 (i : Nat) : Nat → K.V := fun j => if j < i then (1099511627776, 0) else (0, 0)
def e1 (i : Nat) : Nat → Int := fun j => if j < i then -1 else 0
/-- Behind k hyperedges: their tails are counted. -/
def o2 (es : List REd) (k : Nat) : Nat → Int := fun j => if j < k then ((es.getD j ⟨none, 0, 0, [], 0, 0, 0⟩).tails.length : Int) else 0
def HB (wr : World) (hb n m ecap : Nat) (A : Option Addr) : Prop := wr.heap[hb]? = some (.cells #[.int .i64 n, .slice A m ecap] 48 (0, 0))
theorem solve_start {w w1 w3 : World} {n ecap hb bv bs bo bu g : Nat} {A : Option Addr} {es : List REd} {W1 : World} (hW1 : Below w.heap.size w W1) (hhb : HB W1 hb n es.length ecap A) (x1 : w1.heap[bv]? = some (oV n)) (x2 : w1.heap[bs]? = some (oB n)) (x3 : w1.heap[bo]? = some (oI es.length)) (x4 : w1.heap[bu]? = some (oU n)) (x5 : Eff (fun _ => False) W1 w1) (x6 : W1.heap.size ≤ bv ∧ W1.heap.size ≤ bs ∧ W1.heap.size ≤ bo ∧ W1.heap.size ≤ bu)
    (b3 : Below (w1.alloc (.cells #[.int .i64 n, .slice A es.length ecap, .slice (some ⟨bv, 0, none⟩) n n, .slice (some ⟨bs, 0, none⟩) n n, .slice (some ⟨bo, 0, none⟩) es.length es.length, .slice (some ⟨bu, 0, none⟩) n n, .pointer none] 107)).heap.size (w1.alloc (.cells #[.int .i64 n, .slice A es.length ecap, .slice (some ⟨bv, 0, none⟩) n n, .slice (some ⟨bs, 0, none⟩) n n, .slice (some ⟨bo, 0, none⟩) es.length es.length, .slice (some ⟨bu, 0, none⟩) n n, .pointer none] 107)) w3)
    (q3 : QA 131 135 lessK w.heap.size w3 g ([] : List (En K.K3)) 0 0) :
    w3.heap[w1.heap.size]? = some (.cells #[.int .i64 n, .slice A es.length ecap, .slice (some ⟨bv, 0, none⟩) n n, .slice (some ⟨bs, 0, none⟩) n n, .slice (some ⟨bo, 0, none⟩) es.length es.length, .slice (some ⟨bu, 0, none⟩) n n, .pointer none] 107 (0, 0)) ∧
    HB (w3.setCell ⟨w1.heap.size, 6, none⟩ (.pointer (some ⟨g, 0, none⟩))) hb n es.length ecap A ∧ HB ((w3.setCell ⟨w1.heap.size, 6, none⟩ (.pointer (some ⟨g, 0, none⟩))).alloc (oI n)) hb n es.length ecap A ∧
    KSt w ((w3.setCell ⟨w1.heap.size, 6, none⟩ (.pointer (some ⟨g, 0, none⟩))).alloc (oI n)) w1.heap.size bv bs bo bu (w3.setCell ⟨w1.heap.size, 6, none⟩ (.pointer (some ⟨g, 0, none⟩))).heap.size g hb n ecap A es (fun _ => false) (v1 0) (fun _ => 0) (fun _ => .slice none 0 0) (fun _ => []) (e1 0) [] 0 0 := by
  have hs3 := below_heap b3 (heap_alloc_new w1 _)
  have e1' := (x5.trans (eff_alloc w1 (.cells #[.int .i64 n, .slice A es.length ecap, .slice (some ⟨bv, 0, none⟩) n n, .slice (some ⟨bs, 0, none⟩) n n, .slice (some ⟨bo, 0, none⟩) es.length es.length, .slice (some ⟨bu, 0, none⟩) n n, .pointer none] 107)) (fun _ h => h.elim)).trans (T := fun _ => False) (Eff.of_below b3 _) (fun _ h => h.elim)
  have hh3 : w3.heap[hb]? = _ := e1'.heap hhb (fun h => h)
  have e4 : Eff (fun k => k = w1.heap.size) w3 (w3.setCell ⟨w1.heap.size, 6, none⟩ (.pointer (some ⟨g, 0, none⟩))) := eff_setCell w3 w1.heap.size 6 _
  have a5 := eff_alloc (w3.setCell ⟨w1.heap.size, 6, none⟩ (.pointer (some ⟨g, 0, none⟩))) (oI n)
  have e5 := e4.trans a5 (fun _ h => h.elim)
  have l1 : ∀ {b : Nat} {o : Obj}, w1.heap[b]? = some o → w3.heap[b]? = some o := fun h => below_heap b3 ((eff_alloc w1 _).heap h (fun h => h))
  have hh4 : HB (w3.setCell ⟨w1.heap.size, 6, none⟩ (.pointer (some ⟨g, 0, none⟩))) hb n es.length ecap A := e4.heap hh3 (ne_of_type hh3 hs3 (by decide))
  have hbv := l1 x1
  have hbs := l1 x2
  have hbo := l1 x3
  have hbu := l1 x4
  have h5 : ∀ {b : Nat} {c : Array Value} {t : TypeId}, w3.heap[b]? = some (.cells c t (0, 0)) → t ≠ 107 → ((w3.setCell ⟨w1.heap.size, 6, none⟩ (.pointer (some ⟨g, 0, none⟩))).alloc (oI n)).heap[b]? = some (.cells c t (0, 0)) := fun h ht => e5.heap h (ne_of_type h hs3 ht)
  have hz1 : w.heap.size ≤ W1.heap.size := hW1.size
  have hz2 : W1.heap.size ≤ w1.heap.size := x5.size
  have hz3 : w1.heap.size ≤ w3.heap.size := by have := b3.size; simp at this; omega
  have hbo3 : bo < w3.heap.size := (Array.getElem?_eq_some_iff.1 hbo).1
  refine ⟨hs3, hh4, a5.heap hh4 (fun h => h), ⟨a5.heap (set_cell hs3 6 _) (fun h => h), (vals_of (h5 hbv (by decide))).congr (fun i _ => by unfold v1; rw [if_neg (by omega)]), row_of (h5 hbs (by decide)), row_of (h5 hbo (by decide)), ⟨row_of (h5 hbu (by decide)), fun t ht => ⟨rfl, .inl ⟨rfl, rfl⟩⟩, fun t ht => by simp [Value.ownBlock], fun t ht => by simp [Value.ownBlock], fun t u _ _ _ k hk => by simp [Value.ownBlock] at hk⟩, (row_of (heap_alloc_new _ _)).congr (fun i _ => by unfold e1; rw [if_neg (by omega)]), fun h => ?_, a5.heap hh4 (fun h => h), ?_, ?_, ?_⟩⟩
  · have h7 : (w3.setCell ⟨w1.heap.size, 6, none⟩ (.pointer (some ⟨g, 0, none⟩))).heap.size = bo := h
    have := e4.size
    omega
  · exact (q3.cells hs3 (by decide) (by decide) e4).eff ((Below.refl _ _).alloc (Nat.le_refl _) _)
  · have h7 : Below w.heap.size w w3 := hW1.trans (e1'.belowB hz1 (fun _ h => h.elim))
    exact (h7.setCell (p := ⟨w1.heap.size, 6, none⟩) (by show _ ≤ w1.heap.size; omega) _).alloc (by have := e4.size; omega) _
  · have := e4.size
    exact ⟨by omega, by omega, by omega, by omega, by omega, by omega⟩
theorem o2_succ {es : List REd} {k : Nat} {e : REd} (he : es[k]? = some e) : o2 es (k + 1) = K.upd (o2 es k) k e.tails.length := by
  funext j
  simp only [o2, K.upd]
  by_cases h1 : j = k
  · subst h1
    rw [if_pos (by omega), if_pos rfl]
    simp [List.getD, he]
  · rw [if_neg h1]
    by_cases h2 : j < k
    · rw [if_pos h2, if_pos (by omega)]
    · rw [if_neg h2, if_neg (by omega)]
theorem edges_ok {es : List REd} {n : Nat} (hok : ∀ e ∈ es, e.ok n) : ∀ e ∈ es.map REd.plain, K.OkE n e := by
  intro e he
  obtain ⟨e0, h0, rfl⟩ := List.mem_map.1 he
  obtain ⟨k1, k2, k3, k4, k5, _⟩ := hok e0 h0
  refine ⟨by show e0.head.toNat < n; omega, fun t ht => ?_, k4, k5⟩
  obtain ⟨t0, h1, rfl⟩ := List.mem_map.1 ht
  have := k3 t0 h1
  omega
theorem usesFrom_bound (t : Nat) : ∀ (l : List REd) (k : Nat), (∀ e ∈ l, e.tails.length ≤ 4) → (K.usesFrom t (l.map REd.plain) k).length ≤ 4 * l.length
  | [], _, _ => by simp [K.usesFrom]
  | e :: l, k, h => by
    have h1 := usesFrom_bound t l (k + 1) (fun e he => h e (List.mem_cons_of_mem _ he))
    have h2 := h e List.mem_cons_self
    have h3 : (e.plain.tails.filter (· == t)).length ≤ 4 := Nat.le_trans (List.length_filter_le _ _) (by show (e.tails.map Int.toNat).length ≤ 4; rw [List.length_map]; exact h2)
    simp only [List.map_cons, K.usesFrom, List.length_append, List.length_map, List.length_cons] at *
    omega
theorem uses_bound {es : List REd} {n : Nat} (hm : es.length ≤ 1000) (hok : ∀ e ∈ es, e.ok n) (k j t : Nat) : (K.usesTo (es.map REd.plain) k j t).length ≤ 100000 := by
  unfold K.usesTo
  rw [List.length_append, List.length_map, ← List.map_take]
  have h1 := usesFrom_bound t (es.take k) 0 (fun e he => (hok e (List.mem_of_mem_take he)).2.2.2.2.2)
  rw [List.length_take] at h1
  have h2 : ((((es.map REd.plain).getD k ⟨0, [], 0⟩).tails.take j).filter (· == t)).length ≤ 4 := by
    refine Nat.le_trans (List.length_filter_le _ _) (Nat.le_trans (List.length_take_le' _ _) ?_)
    simp only [List.getD_eq_getElem?_getD, List.getElem?_map]
    cases he : es[k]? with
    | none => simp
    | some e =>
      show (e.tails.map Int.toNat).length ≤ 4
      rw [List.length_map]
      exact (hok e (List.mem_of_getElem? he)).2.2.2.2.2
  omega
set_option maxHeartbeats 8000000 in
set_option maxRecDepth 100000 in
theorem solve50 {w : World} {n ecap : Nat} {A : Option Addr} {es : List REd} (hA : EdsIn w A es) (hok : ∀ e ∈ es, e.ok n) (hn : n ≤ 1000) (hm : es.length ≤ 1000) :
    Calls Try.prog 50 #[.agg #[.int .i64 n, .slice A es.length ecap]] w (SolvePost w n (es.map REd.plain)) := by
  have HA := Lib.hid hA
  have HOK := Lib.hid hok
  clear hA hok
  obtain ⟨W1, hW1⟩ : ∃ W, W = w.alloc (.cells #[.int .i64 n, .slice A es.length ecap] 48) := ⟨_, rfl⟩
  obtain ⟨hb, hhb⟩ : ∃ b, b = w.heap.size := ⟨_, rfl⟩
  have B1 : Hid (Below w.heap.size w W1) := by rw [hW1]; exact (Below.refl _ _).alloc (Nat.le_refl _) _
  have H1 : Hid (HB W1 hb n es.length ecap A) := by show W1.heap[hb]? = _; rw [hW1, hhb]; exact heap_alloc_new w _
  have HW1 := Lib.hid (And.intro hW1 hhb)
  clear hW1 hhb
  go_enter Try.func50, Try.ntmps50
  go_wp2_with fail
  rw [← HW1.out.1, ← HW1.out.2]
  have c0 : W1.cell? ⟨hb, 0, none⟩ = some (.int .i64 n) := by have := H1.out; unfold HB at this; simp only [World.cell?, this]; rfl
  have c1 : W1.cell? ⟨hb, 1, none⟩ = some (.slice A es.length ecap) := by have := H1.out; unfold HB at this; simp only [World.cell?, this]; rfl
  refine solve_make (fun _ _ _ _ _ h => h) (by omega) (by omega) c0 c1 (box_range (L := [.int .i64 n, .slice A es.length ecap]) H1.out 0 _ (fun j v h => by rw [Nat.zero_add]; exact h)) ?_
  rintro bv bs bo bu w1 ⟨x1, x2, x3, x4, x5, x6⟩
  intro t17 t18 t19 t20 t21 t22 t23 t24 t25 t26 t27 t28 t29 t30 t31 t32
  have HX := Lib.hid (And.intro x1 (And.intro x2 (And.intro x3 (And.intro x4 (And.intro x5 x6)))))
  clear x1 x2 x3 x4 x5 x6 c0 c1
  go_wp2_with fail
  refine (newA_K (B := w.heap.size) _ (by have h1 := B1.out.size; have h2 := HX.out.2.2.2.2.1.size; simp; omega)).mono ?_
  rintro r w3 ⟨g, rfl, q3, b3⟩
  obtain ⟨hs3, hh4, hh5, k5⟩ := solve_start B1.out H1.out HX.out.1 HX.out.2.1 HX.out.2.2.1 HX.out.2.2.2.1 HX.out.2.2.2.2.1 HX.out.2.2.2.2.2 b3 q3
  obtain ⟨s, hs⟩ : ∃ s, s = w1.heap.size := ⟨_, rfl⟩
  rw [← hs] at hs3 hh4 hh5 k5
  obtain ⟨be, hbe⟩ : ∃ b, b = w3.heap.size := ⟨_, rfl⟩
  rw [show (w3.setCell ⟨s, 6, none⟩ (.pointer (some ⟨g, 0, none⟩))).heap.size = be from by rw [hbe]; simp [World.setCell]] at k5
  obtain ⟨W5, hW5⟩ : ∃ W, W = (w3.setCell ⟨s, 6, none⟩ (.pointer (some ⟨g, 0, none⟩))).alloc (oI n) := ⟨_, rfl⟩
  have K5 := Lib.hid k5
  have H5 := Lib.hid hh5
  rw [← hW5] at K5 H5
  have y1 : w3.cell? ⟨s, 6, none⟩ = some (.pointer none) := by simp only [World.cell?, hs3]; rfl
  have y2 : w3.frozen? ⟨s, 6, none⟩ = false := frozen_blk hs3 6
  have y3 : (w3.setCell ⟨s, 6, none⟩ (.pointer (some ⟨g, 0, none⟩))).cell? ⟨hb, 0, none⟩ = some (.int .i64 n) := by unfold HB at hh4; simp only [World.cell?, hh4]; rfl
  have y4 : ((w3.setCell ⟨s, 6, none⟩ (.pointer (some ⟨g, 0, none⟩))).alloc (oI n)).cell? ⟨s, 2, none⟩ = some (.slice (some ⟨bv, 0, none⟩) n n) := k5.c.2.1
  have hmk := makeI n (by omega)
  have HS := Lib.hid (And.intro hs (And.intro hbe hW5))
  clear q3 b3 hs3 hh4 hh5 k5 hs hbe hW5 HX
  rw [← HS.out.1]
  go_wp2_with fail
  rw [← HS.out.2.2, ← HS.out.2.1]
  clear y1 y2 y3 y4 hmk
  go_loopg [45] n (fun k si wr => ∃ i : Nat, si = .int .i64 i ∧ i ≤ n ∧ n - i ≤ k ∧ Hid (KSt w wr s bv bs bo bu be g hb n ecap A es (fun _ => false) (v1 i) (fun _ => 0) (fun _ => .slice none 0 0) (fun _ => []) (e1 i) [] 0 0 ∧ HB wr hb n es.length ecap A))
  case atStart => exact ⟨0, rfl, by omega, by omega, K5.out, H5.out⟩
  case round =>
    clear K5 H5 HS
    obtain ⟨i, rfl, hi, hk, HR⟩ := hrel
    by_cases hlt : i < n
    · skip
      as_aux_lemma =>
        have hlz : (i : Int) < (n : Int) := by omega
        obtain ⟨o1, ho1⟩ : ∃ x, (v1 i i).1 = x := ⟨_, rfl⟩
        obtain ⟨o2, ho2⟩ : ∃ x, (v1 i i).2 = x := ⟨_, rfl⟩
        obtain ⟨o3, ho3⟩ : ∃ x, e1 i i = x := ⟨_, rfl⟩
        have s2 := HR.out.1.c.2.1
        have x1 : wr.cell? ⟨bv, i * 2, none⟩ = some (.int .i64 o1) := by rw [← ho1]; exact HR.out.1.vals.at_ i hlt 0 _ rfl
        have x2 : wr.cell? ⟨bv, i * 2 + 1, none⟩ = some (.int .i64 o2) := by rw [← ho2]; exact HR.out.1.vals.at_ i hlt 1 _ rfl
        have f1 : wr.frozen? ⟨bv, i * 2, none⟩ = false := HR.out.1.vals.frozen _
        have f2 : wr.frozen? ⟨bv, i * 2 + 1, none⟩ = false := HR.out.1.vals.frozen _
        have k1 := HR.out.1.setV i hlt (1099511627776, 0)
        have hk1 : wr.setCells bv (i * 2) (encV (1099511627776, 0)) = (wr.setCell ⟨bv, i * 2, none⟩ (.int .i64 1099511627776)).setCell ⟨bv, i * 2 + 1, none⟩ (.int .i64 0) := rfl
        rw [hk1] at k1
        have x3 : ((wr.setCell ⟨bv, i * 2, none⟩ (.int .i64 1099511627776)).setCell ⟨bv, i * 2 + 1, none⟩ (.int .i64 0)).cell? ⟨be, i, none⟩ = some (.int .i64 o3) := by rw [← ho3]; exact k1.edg.cell hlt
        have f3 : ((wr.setCell ⟨bv, i * 2, none⟩ (.int .i64 1099511627776)).setCell ⟨bv, i * 2 + 1, none⟩ (.int .i64 0)).frozen? ⟨be, i, none⟩ = false := k1.edg.frozen i
        have hbh : HB (((wr.setCell ⟨bv, i * 2, none⟩ (.int .i64 1099511627776)).setCell ⟨bv, i * 2 + 1, none⟩ (.int .i64 0)).setCell ⟨be, i, none⟩ (.int .i64 (-1))) hb n es.length ecap A := by
          have h0 := HR.out.2
          obtain ⟨c5, k5, _⟩ := HR.out.1.vals.blk
          obtain ⟨c6, k6, _⟩ := HR.out.1.edg
          exact (eff_setCell _ be i _).heap ((eff_setCell _ bv (i * 2 + 1) _).heap ((eff_setCell wr bv (i * 2) _).heap h0 (ne_of_type h0 k5 (by decide))) (ne_of_type h0 k5 (by decide))) (ne_of_type h0 k6 (by decide))
        have KK := Lib.hid (And.intro (k1.setEf i (-1)) hbh)
        clear hk1 k1 hbh ho1 ho2 ho3
        go_wp2_with fail
        go_roundg (n - (i + 1))
        case measure => omega
        case rel =>
          refine ⟨i + 1, by go_num, by omega, by omega, KK.out.1.congr (fun _ _ => rfl) (fun j hj => ?_) (fun _ _ => rfl) (fun j hj => ?_) (fun _ _ => rfl), KK.out.2⟩
          · unfold K.upd v1
            by_cases h1 : j = i
            · rw [if_pos h1, if_pos (by omega)]
            · rw [if_neg h1]
              by_cases h2 : j < i
              · rw [if_pos h2, if_pos (by omega)]
              · rw [if_neg h2, if_neg (by omega)]
          · unfold K.upd e1
            by_cases h1 : j = i
            · rw [if_pos h1, if_pos (by omega)]
            · rw [if_neg h1]
              by_cases h2 : j < i
              · rw [if_pos h2, if_pos (by omega)]
              · rw [if_neg h2, if_neg (by omega)]

    · have hlz : ¬ (i : Int) < (n : Int) := by omega
      obtain rfl : n = i := by omega
      have z1 : wr.cell? ⟨hb, 1, none⟩ = some (.slice A es.length ecap) := by have := HR.out.2; unfold HB at this; simp only [World.cell?, this]; rfl
      go_wp2_with fail
      have K6 : Hid (∃ us, KSt w wr s bv bs bo bu be g hb n ecap A es (fun _ => false) (fun _ => (1099511627776, 0)) (o2 es 0) us (K.usesTo (es.map REd.plain) 0 0) (fun _ => -1) [] 0 0) :=
        ⟨_, HR.out.1.congr (fun _ _ => rfl) (fun j hj => by unfold v1; rw [if_pos hj]) (fun j _ => by unfold o2; rw [if_neg (by omega)]) (fun j hj => by unfold e1; rw [if_pos hj]) (fun t _ => (K.usesTo_zero _ t).symm)⟩
      have H6 := Lib.hid HR.out.2
      clear HR hi hk hlt hlz z1
      have HLB : Hid (∀ k j t, (K.usesTo (es.map REd.plain) k j t).length ≤ 100000) := uses_bound hm HOK.out
      go_loopg [62] es.length (fun gk sk wr => ∃ k : Nat, sk = .int .i64 k ∧ k ≤ es.length ∧ es.length - k ≤ gk ∧ Hid ((∃ us, KSt w wr s bv bs bo bu be g hb n ecap A es (fun _ => false) (fun _ => (1099511627776, 0)) (o2 es k) us (K.usesTo (es.map REd.plain) k 0) (fun _ => -1) [] 0 0) ∧ HB wr hb n es.length ecap A))
      case atStart => exact ⟨0, rfl, by omega, by omega, K6.out, H6.out⟩
      case round =>
        clear K6 H6
        obtain ⟨k, rfl, hi, hk, HR⟩ := hrel
        by_cases hlt : k < es.length
        · skip
          as_aux_lemma =>
            have hlz : (k : Int) < (es.length : Int) := by omega
            have hkl := hlt
            obtain ⟨e, he⟩ : ∃ e, es[k]? = some e := ⟨_, List.getElem?_eq_getElem hlt⟩
            have hok := HOK.out e (List.mem_of_getElem? he)
            have HTL0 := HA.out.tails e (List.mem_of_getElem? he)
            obtain ⟨eb0, eo, rfl, hr0⟩ := HA.out.at_ k e he
            have hop : o2 es (k + 1) = K.upd (o2 es k) k e.tails.length := o2_succ he
            have HEK : Hid ((es.map REd.plain)[k]? = some e.plain) := by show _ = _; rw [List.getElem?_map, he]; rfl
            obtain ⟨eA, ec, head, tails, cost, l0, l1⟩ := e
            have HTL : Hid (IntsIn w eA tails) := HTL0
            have HET : Hid (∀ t ∈ tails, 0 ≤ t ∧ t < n) := hok.2.2.1
            have htl : tails.length ≤ 4 := hok.2.2.2.2.2
            have hop : o2 es (k + 1) = K.upd (o2 es k) k tails.length := hop
            obtain ⟨⟨us, k1⟩, h1⟩ := HR.out
            have hr : wr.rangeAt eb0 (eo + k * 5) [.int .i64 head, .slice eA tails.length ec, .int .i64 cost, .int .i64 l0, .int .i64 l1] := fun j u hu => (k1.below.cell (World.block_lt_of_cell? w _ (hr0 j u hu))).trans (hr0 j u hu)
            have z0 : wr.cell? ⟨eb0, eo + k * 5, none⟩ = some (.int .i64 head) := hr 0 _ rfl
            have z1 : wr.cell? ⟨eb0, eo + k * 5 + 1, none⟩ = some (.slice eA tails.length ec) := hr 1 _ rfl
            have z2 : wr.cell? ⟨eb0, eo + k * 5 + 2, none⟩ = some (.int .i64 cost) := hr 2 _ rfl
            have z3 : wr.cell? ⟨eb0, eo + k * 5 + 3, none⟩ = some (.int .i64 l0) := hr 3 _ rfl
            have z4 : wr.cell? ⟨eb0, eo + k * 5 + 4, none⟩ = some (.int .i64 l1) := hr 4 _ rfl
            obtain ⟨W2, hW2⟩ : ∃ W, W = wr.alloc (.cells #[.int .i64 head, .slice eA tails.length ec, .int .i64 cost, .int .i64 l0, .int .i64 l1] 60) := ⟨_, rfl⟩
            obtain ⟨xb, hxb⟩ : ∃ b, b = wr.heap.size := ⟨_, rfl⟩
            have B2 : Below wr.heap.size wr W2 := by rw [hW2]; exact (Below.refl _ _).alloc (Nat.le_refl _) _
            have X2 : Hid (W2.heap[xb]? = some (.cells #[.int .i64 head, .slice eA tails.length ec, .int .i64 cost, .int .i64 l0, .int .i64 l1] 60 (0, 0))) := by show _ = _; rw [hW2, hxb]; exact heap_alloc_new wr _
            have K2 : Hid (KSt w W2.drew s bv bs bo bu be g hb n ecap (some ⟨eb0, eo, none⟩) es (fun _ => false) (fun _ => (1099511627776, 0)) (o2 es k) us (K.usesTo (es.map REd.plain) k 0) (fun _ => -1) [] 0 0) := k1.bel B2.drew
            have H2 : Hid (HB W2 hb n es.length ecap (some ⟨eb0, eo, none⟩)) := below_heap B2 h1
            have HW2 := Lib.hid (And.intro hW2 hxb)
            have HOP := Lib.hid hop
            clear HR k1 h1 he hok HTL0 hr0 hr hW2 hxb B2 hop
            go_wp2_with fail
            rw [← HW2.out.1, ← HW2.out.2]
            have c4 : W2.cell? ⟨s, 4, none⟩ = some (.slice (some ⟨bo, 0, none⟩) es.length es.length) := K2.out.c.2.2.2.1
            have xx1 : W2.cell? ⟨xb, 1, none⟩ = some (.slice eA tails.length ec) := by simp only [World.cell?, X2.out]; rfl
            have hlz : (k : Int) < (es.length : Int) := by omega
            clear z0 z1 z2 z3 z4
            refine start_ (n := 10) (S := fun w' => w'.cell? ⟨s, 4, none⟩ = some (.slice (some ⟨bo, 0, none⟩) es.length es.length) ∧ w'.cell? ⟨xb, 1, none⟩ = some (.slice eA tails.length ec)) (ds := [9]) #[false, false, false, false, false, false, false, false, false, false] (by kernel_rfl) rfl rfl ⟨c4, xx1⟩ (fun hHeld => ?_)
            refine pure_ (i := 0) (N := some 67) (v := ?_) (a' := ?_) #[true, false, false, false, false, false, false, false, false, false] rfl rfl (by kernel_rfl) (fun _ _ _ h => h) (Or.inl ⟨by rfl, ?_⟩) ?_ ?_
            rotate_left
            · intro w'
              go_simp
              with_reducible rfl
            rotate_left
            · simp only [Act.put, List.setIfInBounds_toArray, List.set_cons_zero, List.set_cons_succ, i64_w, i32_w]
              rfl
            refine pure_ (i := 1) (N := some 68) (v := ?_) (a' := ?_) #[true, true, false, false, false, false, false, false, false, false] rfl rfl (by kernel_rfl) (fun _ _ _ h => h) (Or.inl ⟨by rfl, ?_⟩) ?_ ?_
            rotate_left
            · intro w'
              go_simp
              with_reducible rfl
            rotate_left
            · simp only [Act.put, List.setIfInBounds_toArray, List.set_cons_zero, List.set_cons_succ, i64_w, i32_w]
              rfl
            refine pure_ (i := 2) (N := some 69) (v := ?_) (a' := ?_) #[true, true, true, false, false, false, false, false, false, false] rfl rfl (by kernel_rfl) (fun _ _ _ h => h) (Or.inl ⟨by rfl, ?_⟩) ?_ ?_
            rotate_left
            · intro w'
              go_simp
              with_reducible rfl
            rotate_left
            · simp only [Act.put, List.setIfInBounds_toArray, List.set_cons_zero, List.set_cons_succ, i64_w, i32_w]
              rfl
            refine pure_ (i := 4) (N := some 71) (v := ?_) (a' := ?_) #[true, true, true, false, true, false, false, false, false, false] rfl rfl (by kernel_rfl) (fun _ _ _ h => h) (Or.inl ⟨by rfl, ?_⟩) ?_ ?_
            rotate_left
            · intro w'
              go_simp
              with_reducible rfl
            rotate_left
            · simp only [Act.put, List.setIfInBounds_toArray, List.set_cons_zero, List.set_cons_succ, i64_w, i32_w]
              rfl
            refine pure_ (i := 5) (N := some 72) (v := ?_) (a' := ?_) #[true, true, true, false, true, true, false, false, false, false] rfl rfl (by kernel_rfl) (fun _ _ _ h => h) (Or.inl ⟨by rfl, ?_⟩) ?_ ?_
            rotate_left
            · intro w'
              go_simp
              with_reducible rfl
            rotate_left
            · simp only [Act.put, List.setIfInBounds_toArray, List.set_cons_zero, List.set_cons_succ, i64_w, i32_w]
              rfl
            refine take_ (i := 3) (N := some 70) (v := ?_) (a' := ?_) #[true, true, true, true, true, true, false, false, false, false] rfl rfl (by kernel_rfl) (fun _ _ _ h => h) (Or.inl ⟨by rfl, ?_⟩) hHeld ?_ ?_
            rotate_left
            · rintro w' ⟨s0, s1⟩
              go_simp
              with_reducible rfl
            rotate_left
            · simp only [Act.put, List.setIfInBounds_toArray, List.set_cons_zero, List.set_cons_succ, i64_w, i32_w]
              rfl
            refine take_ (i := 6) (N := some 73) (v := ?_) (a' := ?_) #[true, true, true, true, true, true, true, false, false, false] rfl rfl (by kernel_rfl) (fun _ _ _ h => h) (Or.inl ⟨by rfl, ?_⟩) hHeld ?_ ?_
            rotate_left
            · rintro w' ⟨s0, s1⟩
              go_simp
              with_reducible rfl
            rotate_left
            · simp only [Act.put, List.setIfInBounds_toArray, List.set_cons_zero, List.set_cons_succ, i64_w, i32_w]
              rfl
            refine pure_ (i := 7) (N := some 74) (v := ?_) (a' := ?_) #[true, true, true, true, true, true, true, true, false, false] rfl rfl (by kernel_rfl) (fun _ _ _ h => h) (Or.inl ⟨by rfl, ?_⟩) ?_ ?_
            rotate_left
            · intro w'
              go_simp
              with_reducible rfl
            rotate_left
            · simp only [Act.put, List.setIfInBounds_toArray, List.set_cons_zero, List.set_cons_succ, i64_w, i32_w]
              rfl
            refine pure_ (i := 8) (N := some 75) (v := ?_) (a' := ?_) #[true, true, true, true, true, true, true, true, true, false] rfl rfl (by kernel_rfl) (fun _ _ _ h => h) (Or.inl ⟨by rfl, ?_⟩) ?_ ?_
            rotate_left
            · intro w'
              go_simp
              with_reducible rfl
            rotate_left
            · simp only [Act.put, List.setIfInBounds_toArray, List.set_cons_zero, List.set_cons_succ, i64_w, i32_w]
              rfl
            refine last_ (i := 9) (N := none) #[true, true, true, true, true, true, true, true, true, true] rfl rfl (by kernel_rfl) (by decide) (fun K hK => ?_)
            refine skip_ (w1 := W2.drew.setCell ⟨bo, k, none⟩ (.int .i64 tails.length)) (by rfl) rfl (run_u (run_storeAt_one (w := W2.drew) (by kernel_rfl) rfl (o := .int .i64 (o2 es k k)) (K2.out.opn.cell hkl) (K2.out.opn.frozen k))) ?_
            refine hK.out _ _ ?_
            clear hK K
            refine done_ (by kernel_rfl) ?_
            obtain ⟨W3, hW3⟩ : ∃ W, W = W2.drew.setCell ⟨bo, k, none⟩ (.int .i64 tails.length) := ⟨_, rfl⟩
            have K3 : Hid (KSt w W3 s bv bs bo bu be g hb n ecap (some ⟨eb0, eo, none⟩) es (fun _ => false) (fun _ => (1099511627776, 0)) (o2 es (k + 1)) us (K.usesTo (es.map REd.plain) k 0) (fun _ => -1) [] 0 0) := by rw [hW3, HOP.out]; exact K2.out.setOp k tails.length
            obtain ⟨co, ko, _⟩ := K2.out.opn
            have H3 : Hid (HB W3 hb n es.length ecap (some ⟨eb0, eo, none⟩)) := by
              rw [hW3]
              have h7 : W2.drew.heap[hb]? = _ := H2.out
              exact (eff_setCell W2.drew bo k _).heap h7 (ne_of_type h7 ko (by decide))
            have xx3 : W3.cell? ⟨xb, 1, none⟩ = some (.slice eA tails.length ec) := by
              rw [hW3]
              exact (eff_setCell W2.drew bo k _).cell (show W2.drew.cell? _ = _ from xx1) (ne_of_type (show W2.drew.heap[xb]? = _ from X2.out) ko (by decide))
            rw [← hW3]
            clear hHeld c4 xx1 hW3 ko
            go_wp2_with fail
            have HI3 : Hid ((∃ us, KSt w W3 s bv bs bo bu be g hb n ecap (some ⟨eb0, eo, none⟩) es (fun _ => false) (fun _ => (1099511627776, 0)) (o2 es (k + 1)) us (K.usesTo (es.map REd.plain) k 0) (fun _ => -1) [] 0 0) ∧ HB W3 hb n es.length ecap (some ⟨eb0, eo, none⟩)) := ⟨⟨_, K3.out⟩, H3.out⟩
            clear K2 H2 K3 H3 X2 xx3 HW2
            go_loopg [79] tails.length (fun gj sj wr => ∃ j : Nat, sj = .int .i64 j ∧ j ≤ tails.length ∧ tails.length - j ≤ gj ∧ Hid ((∃ us, KSt w wr s bv bs bo bu be g hb n ecap (some ⟨eb0, eo, none⟩) es (fun _ => false) (fun _ => (1099511627776, 0)) (o2 es (k + 1)) us (K.usesTo (es.map REd.plain) k j) (fun _ => -1) [] 0 0) ∧ HB wr hb n es.length ecap (some ⟨eb0, eo, none⟩)))
            case atStart => exact ⟨0, rfl, by omega, by omega, HI3.out⟩
            case round =>
              clear HI3
              obtain ⟨j, rfl, hj3, hk3, HR3⟩ := hrel
              by_cases hlt3 : j < tails.length
              · as_aux_lemma =>
                  obtain ⟨⟨us, k3⟩, h3⟩ := HR3.out
                  have hlz : (j : Int) < (tails.length : Int) := by omega
                  obtain ⟨t, ht⟩ : ∃ t, tails[j]? = some t := ⟨_, List.getElem?_eq_getElem hlt3⟩
                  obtain ⟨tb, tof, rfl, hct⟩ := HTL.out j t ht
                  have ht2 := HET.out t (List.mem_of_getElem? ht)
                  obtain ⟨tn, rfl⟩ : ∃ tn : Nat, t = tn := ⟨t.toNat, (Int.toNat_of_nonneg ht2.1).symm⟩
                  have htn : tn < n := by omega
                  have hnz : (tn : Int) < (n : Int) := by omega
                  have y0 : wr.cell? ⟨tb, tof + j, none⟩ = some (.int .i64 tn) := (k3.below.cell (World.block_lt_of_cell? w _ hct)).trans hct
                  have c5 := k3.c.2.2.2.2.1
                  obtain ⟨uA, uc, hus⟩ := own_slice (k3.use.at_ tn htn)
                  obtain ⟨ul, hul⟩ : ∃ x, (K.usesTo (es.map REd.plain) k j tn).length = x := ⟨_, rfl⟩
                  rw [hul] at hus
                  have u1 : wr.cell? ⟨bu, tn, none⟩ = some (.slice uA ul uc) := by rw [← hus]; exact k3.use.row.cell htn
                  have hulb : ul ≤ 100000 := by
                    rw [← hul]
                    exact HLB.out _ _ _
                  have EX : Eff (fun _ => False) wr (wr.drew.alloc (.cells #[.int .i64 k] 3)) := (Eff.refl _ wr).drew.alloc _
                  have hrow := ownsRow_keep (W' := wr.drew.alloc (.cells #[.int .i64 k] 3)) (k3.use.at_ tn htn) (fun b o hb hh => EX.heap hh (fun h => h))
                  obtain ⟨i0, hi0, hz0, hz1, hz2⟩ := info_parts (show (Try.prog.info? 3).map (fun i => (i.zero, i.size, i.bytes)) = some (some (.int .i64 0), 1, 8) from by kernel_rfl)
                  obtain ⟨v1, w6, hr6, ho6, hg6, _, ha6⟩ := run_append_own_at (P := Try.prog) (wr.drew.alloc (.cells #[.int .i64 k] 3)) w.heap.size 22 22 3 i0 (.int .i64 0) 1 8 Try.underlying22 hi0 hz0 hz1 hz2 rfl (by decide) _ _ _ hrow
                    ⟨wr.drew.heap.size, 0, none⟩ 1 1 [.int .i64 k] rfl (fun j u hu => by rw [Addr.add_mid]; exact box_range (L := [.int .i64 k]) (heap_alloc_new wr.drew _) 0 _ (fun j v h => by rw [Nat.zero_add]; exact h) j u hu) (fun u hu => by simp at hu; subst hu; rfl) (by rw [hul]; simp only [maxLen]; omega) (by rw [hul]; omega) (by have := k3.below.size; simp; omega)
                  have K6 := k3.append htn k EX ho6 (Eff.of_grown hg6) ha6
                  obtain ⟨A6, n6, k6, hv6⟩ : ∃ A n c, v1 = .slice A n c := by
                    rcases ho6.2 with ⟨h, _⟩ | ⟨_, _, _, h, _⟩
                    · exact ⟨_, _, _, h⟩
                    · exact ⟨_, _, _, h⟩
                  subst hv6
                  rw [hus] at hr6
                  have AP := Lib.hid hr6
                  have hbu6 : ∃ c, w6.heap[bu]? = some (.cells c 22 (0, 0)) ∧ w6.cell? ⟨bu, tn, none⟩ = some (.slice uA ul uc) := by
                    obtain ⟨c2, q2, _⟩ := k3.use.row
                    have e6 : Eff (fun b => some b = (us tn).ownBlock) wr w6 := (EX.mono (fun _ h => h.elim)).trans (Eff.of_grown hg6) (fun k h => .inl h)
                    have nb : ¬ some bu = (us tn).ownBlock := fun hh => by
                      obtain ⟨c', hc'⟩ := k3.use.blk tn bu htn hh.symm
                      exact ne_of_type q2 hc' (by decide) rfl
                    exact ⟨_, e6.heap q2 nb, e6.cell u1 nb⟩
                  have UB : Hid (w6.cell? ⟨bu, tn, none⟩ = some (.slice uA ul uc) ∧ w6.frozen? ⟨bu, tn, none⟩ = false) := by
                    obtain ⟨c, q1, q2⟩ := hbu6
                    exact ⟨q2, frozen_blk q1 tn⟩
                  have S6 : Hid (w6.cell? ⟨s, 5, none⟩ = some (.slice (some ⟨bu, 0, none⟩) n n)) := by
                    obtain ⟨c4, q4⟩ := k3.blkS
                    have e6 : Eff (fun b => some b = (us tn).ownBlock) wr w6 := (EX.mono (fun _ h => h.elim)).trans (Eff.of_grown hg6) (fun k h => .inl h)
                    refine e6.cell c5 (fun hh => ?_)
                    obtain ⟨c', hc'⟩ := k3.use.blk tn s htn hh.symm
                    exact ne_of_type q4 hc' (by decide) rfl
                  have H6 : HB (w6.setCell ⟨bu, tn, none⟩ (.slice A6 n6 k6)) hb n es.length ecap (some ⟨eb0, eo, none⟩) := by
                    obtain ⟨c2, q2, _⟩ := k3.use.row
                    have e6 : Eff (fun b => some b = (us tn).ownBlock) wr w6 := (EX.mono (fun _ h => h.elim)).trans (Eff.of_grown hg6) (fun k h => .inl h)
                    refine (eff_setCell w6 bu tn _).heap (e6.heap h3 (fun hh => ?_)) (ne_of_type h3 q2 (by decide))
                    obtain ⟨c', hc'⟩ := k3.use.blk tn hb htn hh.symm
                    exact ne_of_type h3 hc' (by decide) rfl
                  have KK := Lib.hid (And.intro K6 (And.intro H6 ht))
                  clear HR3 k3 h3 ht hct ht2 hus hul EX hrow hi0 hz0 hz1 hz2 hr6 ho6 hg6 ha6 K6 hbu6 H6 hulb
                  go_wp2_with fail
                  have hnz : (tn : Int) < (n : Int) := by omega
                  refine start_ (n := 17) (S := fun w' => w'.cell? ⟨s, 5, none⟩ = some (.slice (some ⟨bu, 0, none⟩) n n) ∧ w'.cell? ⟨bu, tn, none⟩ = some (.slice uA ul uc)) (ds := [16]) #[false, false, false, false, false, false, false, false, false, false, false, false, false, false, false, false, false] (by kernel_rfl) rfl rfl ⟨c5, u1⟩ (fun hHeld => ?_)
                  refine pure_ (i := 0) (N := some 83) (v := ?_) (a' := ?_) #[true, false, false, false, false, false, false, false, false, false, false, false, false, false, false, false, false] rfl rfl (by kernel_rfl) (fun _ _ _ h => h) (Or.inl ⟨by rfl, ?_⟩) ?_ ?_
                  rotate_left
                  · intro w'
                    go_simp
                    with_reducible rfl
                  rotate_left
                  · simp only [Act.put, List.setIfInBounds_toArray, List.set_cons_zero, List.set_cons_succ, i64_w, i32_w]
                    rfl
                  refine pure_ (i := 1) (N := some 84) (v := ?_) (a' := ?_) #[true, true, false, false, false, false, false, false, false, false, false, false, false, false, false, false, false] rfl rfl (by kernel_rfl) (fun _ _ _ h => h) (Or.inl ⟨by rfl, ?_⟩) ?_ ?_
                  rotate_left
                  · intro w'
                    go_simp
                    with_reducible rfl
                  rotate_left
                  · simp only [Act.put, List.setIfInBounds_toArray, List.set_cons_zero, List.set_cons_succ, i64_w, i32_w]
                    rfl
                  refine pure_ (i := 2) (N := some 85) (v := ?_) (a' := ?_) #[true, true, true, false, false, false, false, false, false, false, false, false, false, false, false, false, false] rfl rfl (by kernel_rfl) (fun _ _ _ h => h) (Or.inl ⟨by rfl, ?_⟩) ?_ ?_
                  rotate_left
                  · intro w'
                    go_simp
                    with_reducible rfl
                  rotate_left
                  · simp only [Act.put, List.setIfInBounds_toArray, List.set_cons_zero, List.set_cons_succ, i64_w, i32_w]
                    rfl
                  refine pure_ (i := 4) (N := some 87) (v := ?_) (a' := ?_) #[true, true, true, false, true, false, false, false, false, false, false, false, false, false, false, false, false] rfl rfl (by kernel_rfl) (fun _ _ _ h => h) (Or.inl ⟨by rfl, ?_⟩) ?_ ?_
                  rotate_left
                  · intro w'
                    go_simp
                    with_reducible rfl
                  rotate_left
                  · simp only [Act.put, List.setIfInBounds_toArray, List.set_cons_zero, List.set_cons_succ, i64_w, i32_w]
                    rfl
                  refine pure_ (i := 5) (N := some 88) (v := ?_) (a' := ?_) #[true, true, true, false, true, true, false, false, false, false, false, false, false, false, false, false, false] rfl rfl (by kernel_rfl) (fun _ _ _ h => h) (Or.inl ⟨by rfl, ?_⟩) ?_ ?_
                  rotate_left
                  · intro w'
                    go_simp
                    with_reducible rfl
                  rotate_left
                  · simp only [Act.put, List.setIfInBounds_toArray, List.set_cons_zero, List.set_cons_succ, i64_w, i32_w]
                    rfl
                  refine pure_ (i := 6) (N := some 89) (v := ?_) (a' := ?_) #[true, true, true, false, true, true, true, false, false, false, false, false, false, false, false, false, false] rfl rfl (by kernel_rfl) (fun _ _ _ h => h) (Or.inl ⟨by rfl, ?_⟩) ?_ ?_
                  rotate_left
                  · intro w'
                    go_simp
                    with_reducible rfl
                  rotate_left
                  · simp only [Act.put, List.setIfInBounds_toArray, List.set_cons_zero, List.set_cons_succ, i64_w, i32_w]
                    rfl
                  refine pure_ (i := 7) (N := some 90) (v := ?_) (a' := ?_) #[true, true, true, false, true, true, true, true, false, false, false, false, false, false, false, false, false] rfl rfl (by kernel_rfl) (fun _ _ _ h => h) (Or.inl ⟨by rfl, ?_⟩) ?_ ?_
                  rotate_left
                  · intro w'
                    go_simp
                    with_reducible rfl
                  rotate_left
                  · simp only [Act.put, List.setIfInBounds_toArray, List.set_cons_zero, List.set_cons_succ, i64_w, i32_w]
                    rfl
                  refine pure_ (i := 9) (N := some 92) (v := ?_) (a' := ?_) #[true, true, true, false, true, true, true, true, false, true, false, false, false, false, false, false, false] rfl rfl (by kernel_rfl) (fun _ _ _ h => h) (Or.inl ⟨by rfl, ?_⟩) ?_ ?_
                  rotate_left
                  · intro w'
                    go_simp
                    with_reducible rfl
                  rotate_left
                  · simp only [Act.put, List.setIfInBounds_toArray, List.set_cons_zero, List.set_cons_succ, i64_w, i32_w]
                    rfl
                  refine pure_ (i := 12) (N := some 95) (v := ?_) (a' := ?_) #[true, true, true, false, true, true, true, true, false, true, false, false, true, false, false, false, false] rfl rfl (by kernel_rfl) (fun _ _ _ h => h) (Or.inl ⟨by rfl, ?_⟩) ?_ ?_
                  rotate_left
                  · intro w'
                    go_simp
                    with_reducible rfl
                  rotate_left
                  · simp only [Act.put, List.setIfInBounds_toArray, List.set_cons_zero, List.set_cons_succ, i64_w, i32_w]
                    rfl
                  refine take_ (i := 3) (N := some 86) (v := ?_) (a' := ?_) #[true, true, true, true, true, true, true, true, false, true, false, false, true, false, false, false, false] rfl rfl (by kernel_rfl) (fun _ _ _ h => h) (Or.inl ⟨by rfl, ?_⟩) hHeld ?_ ?_
                  rotate_left
                  · rintro w' ⟨s0, s1⟩
                    go_simp
                    with_reducible rfl
                  rotate_left
                  · simp only [Act.put, List.setIfInBounds_toArray, List.set_cons_zero, List.set_cons_succ, i64_w, i32_w]
                    rfl
                  refine take_ (i := 8) (N := some 91) (v := ?_) (a' := ?_) #[true, true, true, true, true, true, true, true, true, true, false, false, true, false, false, false, false] rfl rfl (by kernel_rfl) (fun _ _ _ h => h) (Or.inl ⟨by rfl, ?_⟩) hHeld ?_ ?_
                  rotate_left
                  · rintro w' ⟨s0, s1⟩
                    go_simp
                    with_reducible rfl
                  rotate_left
                  · simp only [Act.put, List.setIfInBounds_toArray, List.set_cons_zero, List.set_cons_succ, i64_w, i32_w]
                    rfl
                  refine pure_ (i := 10) (N := some 93) (v := ?_) (a' := ?_) #[true, true, true, true, true, true, true, true, true, true, true, false, true, false, false, false, false] rfl rfl (by kernel_rfl) (fun _ _ _ h => h) (Or.inl ⟨by rfl, ?_⟩) ?_ ?_
                  rotate_left
                  · intro w'
                    go_simp
                    with_reducible rfl
                  rotate_left
                  · simp only [Act.put, List.setIfInBounds_toArray, List.set_cons_zero, List.set_cons_succ, i64_w, i32_w]
                    rfl
                  refine take_ (i := 11) (N := some 94) (v := ?_) (a' := ?_) #[true, true, true, true, true, true, true, true, true, true, true, true, true, false, false, false, false] rfl rfl (by kernel_rfl) (fun _ _ _ h => h) (Or.inl ⟨by rfl, ?_⟩) hHeld ?_ ?_
                  rotate_left
                  · rintro w' ⟨s0, s1⟩
                    go_simp
                    with_reducible rfl
                  rotate_left
                  · simp only [Act.put, List.setIfInBounds_toArray, List.set_cons_zero, List.set_cons_succ, i64_w, i32_w]
                    rfl
                  refine one_ (i := 13) (N := some 96) #[true, true, true, true, true, true, true, true, true, true, true, true, true, true, false, false, false] rfl rfl (by kernel_rfl) (by decide) (fun K hK => ?_)
                  refine value_ (w1 := ?_) (v := ?_) (by rfl) rfl ?_ ?_
                  rotate_left 2
                  · go_simp
                    constructor
                    · rfl
                    · rfl
                  refine hK.out _ _ ⟨((eff_alloc _ _).cell hHeld.1 (fun h => h)), ((eff_alloc _ _).cell hHeld.2 (fun h => h))⟩ (fun hHeld => ?_)
                  clear hK K
                  refine norm_ (a' := ?_) ?_ ?_
                  rotate_left
                  · show Act.put _ (some 96) _ = _
                    simp only [Act.put, List.setIfInBounds_toArray, List.set_cons_zero, List.set_cons_succ, i64_w, i32_w]
                    rfl
                  refine one_ (i := 14) (N := some 97) #[true, true, true, true, true, true, true, true, true, true, true, true, true, true, true, false, false] rfl rfl (by kernel_rfl) (by decide) (fun K hK => ?_)
                  refine value_ (w1 := w6) (v := .slice A6 n6 k6) (by rfl) rfl (exec_append rfl (by rfl) (by rfl) AP.out) ?_
                  refine hK.out _ _ ⟨S6.out, UB.out.1⟩ (fun hHeld => ?_)
                  clear hK K
                  refine norm_ (a' := ?_) ?_ ?_
                  rotate_left
                  · show Act.put _ (some 97) _ = _
                    simp only [Act.put, List.setIfInBounds_toArray, List.set_cons_zero, List.set_cons_succ, i64_w, i32_w]
                    rfl
                  refine pure_ (i := 15) (N := some 98) (v := ?_) (a' := ?_) #[true, true, true, true, true, true, true, true, true, true, true, true, true, true, true, true, false] rfl rfl (by kernel_rfl) (fun _ _ _ h => h) (Or.inl ⟨by rfl, ?_⟩) ?_ ?_
                  rotate_left
                  · intro w'
                    go_simp
                    with_reducible rfl
                  rotate_left
                  · simp only [Act.put, List.setIfInBounds_toArray, List.set_cons_zero, List.set_cons_succ, i64_w, i32_w]
                    rfl
                  refine last_ (i := 16) (N := none) #[true, true, true, true, true, true, true, true, true, true, true, true, true, true, true, true, true] rfl rfl (by kernel_rfl) (by decide) (fun K hK => ?_)
                  refine skip_ (w1 := w6.setCell ⟨bu, tn, none⟩ (.slice A6 n6 k6)) (by rfl) rfl (run_u (run_storeAt_one (w := w6) (by kernel_rfl) rfl (o := .slice uA ul uc) UB.out.1 UB.out.2)) ?_
                  refine hK.out _ _ ?_
                  clear hK K
                  refine done_ (by kernel_rfl) ?_
                  clear hHeld c5 u1 y0
                  go_wp2_with fail
                  go_roundg (tails.length - (j + 1))
                  case measure => omega
                  case rel =>
                    refine ⟨j + 1, by go_num, by omega, by omega, ⟨_, KK.out.1.congr (fun _ _ => rfl) (fun _ _ => rfl) (fun _ _ => rfl) (fun _ _ => rfl) (fun t ht => ?_)⟩, KK.out.2.1⟩
                    have h7 := K.usesTo_tail (E := es.map REd.plain) (k := k) (j := j) (t := t) (x := tn) HEK.out (by show (tails.map Int.toNat)[j]? = some tn; rw [List.getElem?_map, KK.out.2.2]; rfl)
                    rw [h7]
                    by_cases h8 : t = tn
                    · subst h8
                      rw [K.upd_self, if_pos rfl]
                    · rw [K.upd_ne _ _ h8, if_neg (fun e => h8 e.symm)]

              · have hlz3 : ¬ (j : Int) < (tails.length : Int) := by omega
                obtain rfl : j = tails.length := by omega
                go_wp2_with fail
                go_roundg (es.length - (k + 1))
                case measure => omega
                case rel =>
                  obtain ⟨⟨us, k3⟩, h3⟩ := HR3.out
                  refine ⟨k + 1, by go_num, by omega, by omega, ⟨us, k3.congr (fun _ _ => rfl) (fun _ _ => rfl) (fun _ _ => rfl) (fun _ _ => rfl) (fun t _ => ?_)⟩, h3⟩
                  have h4 := K.usesTo_next (t := t) HEK.out
                  rw [← h4]
                  show _ = K.usesTo _ k (tails.map Int.toNat).length t
                  rw [List.length_map]
        · have hlz : ¬ (k : Int) < (es.length : Int) := by omega
          obtain rfl : es.length = k := by omega
          clear hi hk
          obtain ⟨us, k4⟩ := HR.out.1
          have c4 := k4.c.2.2.2.1
          have K4 : Hid (KSt w wr s bv bs bo bu be g hb n ecap A es (fun _ => false) (fun _ => (1099511627776, 0)) (o2 es es.length) us (K.uses (es.map REd.plain)) (fun _ => -1) [] 0 0) :=
            k4.congr (fun _ _ => rfl) (fun _ _ => rfl) (fun _ _ => rfl) (fun _ _ => rfl) (fun t _ => by rw [← K.usesTo_all, List.length_map])
          clear k4 HR hlt
          go_wp2_with fail
          clear c4 hlz
          go_loopg [106] es.length (fun gk si wr => ∃ i : Nat, si = .int .i64 i ∧ i ≤ es.length ∧ es.length - i ≤ gk ∧ Hid (∃ S nx ck D, KSt w wr s bv bs bo bu be g hb n ecap A es (fun _ => false) (fun _ => (1099511627776, 0)) (o2 es es.length) us (K.uses (es.map REd.plain)) (fun _ => -1) S nx ck ∧ P0 (es.map REd.plain) n (o2 es es.length) S nx ck D i))
          case atStart => exact ⟨0, rfl, by omega, by omega, [], 0, 0, [], K4.out, P0.start _ _ _⟩
          case round =>
            clear K4
            obtain ⟨i, rfl, hi, hk, HR⟩ := hrel
            by_cases hlt : i < es.length
            · skip
              as_aux_lemma =>
                obtain ⟨S, nx, ck, D, k5, p5⟩ := HR.out
                have hlz : (i : Int) < (es.length : Int) := by omega
                obtain ⟨e, he⟩ : ∃ e, es[i]? = some e := ⟨_, List.getElem?_eq_getElem hlt⟩
                have hok := HOK.out e (List.mem_of_getElem? he)
                have HEK : Hid ((es.map REd.plain)[i]? = some e.plain) := by show _ = _; rw [List.getElem?_map, he]; rfl
                have hov : o2 es es.length i = (e.tails.length : Int) := by unfold o2; rw [if_pos hlt]; simp [List.getD, he]
                have x1 : wr.cell? ⟨bo, i, none⟩ = some (.int .i64 e.tails.length) := by rw [← hov]; exact k5.opn.cell hlt
                have hq1 := p5.nx0
                have hq2 := p5.nx1
                have hq3 := p5.ck0
                have hq4 := p5.ck1
                have hq5 := p5.slen
                have hDl : D.length ≤ 1000 := by have := p5.inv.count; rw [List.length_map] at this; omega
                have C79 := Lib.hid (offer79 k5 HA.out i e he hok p5.inv.ok p5.hs hq1 (by omega) hq3 (by omega) (by omega))
                have EOK : Hid (∀ e ∈ es.map REd.plain, K.OkE n e) := edges_ok HOK.out
                have HP := Lib.hid (And.intro p5 (And.intro True.intro (And.intro k5 hov)))
                obtain ⟨eb0, eo, hAe, hr0⟩ := HA.out.at_ i e he
                have z1 : wr.cell? ⟨eb0, eo + i * 5 + 1, none⟩ = some (.slice e.A e.tails.length e.cap) := (k5.below.cell (World.block_lt_of_cell? w _ (hr0 1 _ rfl))).trans (hr0 1 _ rfl)
                have y1 : wr.cell? ⟨hb, 1, none⟩ = some (.slice (some ⟨eb0, eo, none⟩) es.length ecap) := by rw [← hAe]; simp only [World.cell?, k5.hdr]; rfl
                have HAE := Lib.hid hAe
                clear HR k5 p5 he hok hov hq1 hq2 hq3 hq4 hq5 hDl hr0 hAe
                by_cases ht : e.tails = []
                · have hl0 : e.tails.length = 0 := by rw [ht]; rfl
                  rw [hl0] at x1 z1
                  have HT := Lib.hid (And.intro ht hl0)
                  clear ht hl0
                  go_wp2_with fail
                  with_reducible refine C79.out.mono ?_
                  have hstep := Lib.hid (HP.out.1.step EOK.out HEK.out (show e.tails.map Int.toNat = [] by rw [HT.out.1]; rfl) (by rw [HP.out.2.2.2, HT.out.2]; rfl))
                  rintro r w6 ⟨rfl, ⟨hy, k6⟩ | ⟨hy, k6⟩⟩
                  · have N6 := Lib.hid (And.intro k6 (hstep.out.1 hy))
                    clear k6 hy C79 hstep
                    go_wp2_with fail
                    go_roundg (es.length - (i + 1))
                    case measure => omega
                    case rel => exact ⟨i + 1, by go_num, by omega, by omega, _, _, _, _, N6.out.1, N6.out.2⟩
                  · have N6 := Lib.hid (And.intro k6 (hstep.out.2 hy))
                    clear k6 hy C79 hstep
                    go_wp2_with fail
                    go_roundg (es.length - (i + 1))
                    case measure => omega
                    case rel => exact ⟨i + 1, by go_num, by omega, by omega, _, _, _, _, N6.out.1, N6.out.2⟩
                · have hne : e.tails.length ≠ 0 := fun h => ht (List.length_eq_zero_iff.1 h)
                  obtain ⟨tl, htl⟩ : ∃ x : Int, (e.tails.length : Int) = x := ⟨_, rfl⟩
                  rw [htl] at x1
                  have hzb : (tl == 0) = false := beq_eq_false_iff_ne.2 (by omega)
                  have N6 := Lib.hid (HP.out.1.skip (by rw [HP.out.2.2.2]; omega))
                  clear ht hne htl C79
                  go_wp2_with fail
                  go_roundg (es.length - (i + 1))
                  case measure => omega
                  case rel => exact ⟨i + 1, by go_num, by omega, by omega, _, _, _, _, HP.out.2.2.1, N6.out⟩

            · have hlz : ¬ (i : Int) < (es.length : Int) := by omega
              obtain rfl : es.length = i := by omega
              clear hi hk
              obtain ⟨S, nx, ck, D, k5, p5⟩ := HR.out
              have HI4 : Hid (∃ st v op S nx ck last D, KSt w wr s bv bs bo bu be g hb n ecap A es st v op us (K.uses (es.map REd.plain)) (fun _ => -1) S nx ck ∧ PSt (es.map REd.plain) n st v op S nx ck last D [] ∧ S.length + (es.length - D.length) ≤ es.length) :=
                ⟨_, _, _, S, nx, ck, _, D, k5, P0.done (by rw [List.length_map]; exact p5) (fun k e he => by
                  rw [List.getElem?_map] at he
                  obtain ⟨e0, he0, rfl⟩ := Option.map_eq_some_iff.1 he
                  have hkl := (List.getElem?_eq_some_iff.1 he0).1
                  unfold o2
                  rw [if_pos hkl]
                  show _ = (((e0.tails.map Int.toNat).length : Nat) : Int)
                  simp [List.getD, he0]), by have h7 := p5.slen; have h8 := p5.inv.count; rw [List.length_map] at h8; omega⟩
              clear k5 p5 HR hlt
              go_wp2_with fail
              clear hlz
              go_loopg [] es.length (fun gk wr => Hid (∃ st v op S nx ck last D, KSt w wr s bv bs bo bu be g hb n ecap A es st v op us (K.uses (es.map REd.plain)) (fun _ => -1) S nx ck ∧ PSt (es.map REd.plain) n st v op S nx ck last D [] ∧ S.length + (es.length - D.length) ≤ gk))
              case atStart => exact HI4
              case round =>
                clear HI4
                have HR := hrel
                clear hrel
                obtain ⟨st, v, op, S, nx, ck, last, D, k5, p5, m5⟩ := HR.out
                by_cases hS : S ≠ []
                · skip
                  as_aux_lemma =>
                    have hne := hS
                    have CP := Lib.hid (popA_K k5.q hne (by have := p5.slen; have h8 := p5.inv.count; rw [List.length_map] at h8; omega))
                    have c6 := k5.c.2.2.2.2.2
                    have HK := Lib.hid (And.intro k5 (And.intro p5 (And.intro True.intro m5)))
                    clear HR k5 p5 m5 hS hne
                    go_wp2_with fail
                    with_reducible refine CP.out.mono ?_
                    rintro r w2 ⟨m1, R1, rfl, hq1, hmin1, q2, e2⟩
                    have hnd : m1.x.node < n := HK.out.2.1.cand hq1
                    obtain ⟨nd, hnd'⟩ : ∃ x, m1.x.node = x := ⟨_, rfl⟩
                    obtain ⟨a, ha⟩ : ∃ x, m1.x.c = x := ⟨_, rfl⟩
                    obtain ⟨b, hb'⟩ : ∃ x, m1.x.s = x := ⟨_, rfl⟩
                    rw [hnd'] at hnd
                    have HC := Lib.hid (show (Cells.cs m1.x).toArray = #[.int .i64 nd, .int .i64 a, .int .i64 b] from by rw [← ha, ← hb', ← hnd']; rfl)
                    rw [HC.out]
                    obtain ⟨W3, hW3⟩ : ∃ W, W = w2.alloc (.cells #[.int .i64 nd, .int .i64 a, .int .i64 b] 110) := ⟨_, rfl⟩
                    obtain ⟨cb, hcb⟩ : ∃ c, c = w2.heap.size := ⟨_, rfl⟩
                    have B3 : Below w2.heap.size w2 W3 := by rw [hW3]; exact (Below.refl _ _).alloc (Nat.le_refl _) _
                    have C3 : Hid (W3.heap[cb]? = some (.cells #[.int .i64 nd, .int .i64 a, .int .i64 b] 110 (0, 0))) := by show _ = _; rw [hW3, hcb]; exact heap_alloc_new w2 _
                    have k2 := HK.out.1.effT e2 q2
                    have K3 := Lib.hid (k2.bel B3)
                    have hlen := hq1.length_eq
                    simp only [List.length_cons] at hlen
                    have hsl := HK.out.2.2.2
                    have HM := Lib.hid (And.intro hq1 (And.intro hmin1 (And.intro ha (And.intro hb' hnd'))))
                    have HW3 := Lib.hid (And.intro hW3 hcb)
                    have hDl : D.length ≤ es.length := by have h8 := HK.out.2.1.inv.count; rw [List.length_map] at h8; omega
                    clear hq1 hmin1 q2 e2 ha hb' hnd' hW3 hcb B3 k2 CP c6
                    go_wp2_with fail
                    rw [← HW3.out.1, ← HW3.out.2]
                    have c3 := K3.out.c.2.2.1
                    have x0 : W3.cell? ⟨cb, 0, none⟩ = some (.int .i64 nd) := by simp only [World.cell?, C3.out]; rfl
                    have xa : W3.cell? ⟨cb, 1, none⟩ = some (.int .i64 a) := by simp only [World.cell?, C3.out]; rfl
                    have xb : W3.cell? ⟨cb, 2, none⟩ = some (.int .i64 b) := by simp only [World.cell?, C3.out]; rfl
                    have hnz : (nd : Int) < (n : Int) := by omega
                    cases hst : st nd with
                    | true =>
                      have b0 : W3.cell? ⟨bs, nd, none⟩ = some (.bool true) := by have := K3.out.sett.cell hnd; rwa [hst] at this
                      have PP := Lib.hid (HK.out.2.1.skip HM.out.1 HM.out.2.1 (by rw [HM.out.2.2.2.2]; exact hst))
                      clear hst
                      go_quiet (fail)
                      go_wp2_with fail
                      go_roundg (R1.length + (es.length - D.length))
                      case measure => omega
                      case rel => exact ⟨st, v, op, R1, nx, ck, _, D, K3.out.bel (below_drewN (Below.refl _ _) nq), PP.out, Nat.le_refl _⟩
                    | false =>
                      have b0 : W3.cell? ⟨bs, nd, none⟩ = some (.bool false) := by have := K3.out.sett.cell hnd; rwa [hst] at this
                      have hps := HK.out.2.1.settle HM.out.1 HM.out.2.1 (by rw [HM.out.2.2.2.2]; exact hst)
                      have hval : m1.x.val = (a, b) := by rw [← HM.out.2.2.1, ← HM.out.2.2.2.1]; rfl
                      rw [HM.out.2.2.2.2, hval] at hps
                      have PP := Lib.hid hps
                      clear hst hps hval
                      go_quiet (fail)
                      go_wp2_with fail
                      obtain ⟨W4, hW4⟩ : ∃ W, W = W3.drewN nq := ⟨_, rfl⟩
                      rw [← hW4]
                      have B4 : Below W3.heap.size W3 W4 := by rw [hW4]; exact below_drewN (Below.refl _ _) nq
                      have k4 := K3.out.bel B4
                      have hc4 := below_heap B4 C3.out
                      have CS := Lib.hid (settle81 k4 PP.out rfl HOK.out HA.out hnd hm (by have := HLB.out es.length 0 nd; rw [show K.usesTo (es.map REd.plain) es.length 0 nd = K.uses (es.map REd.plain) nd by rw [← K.usesTo_all, List.length_map]] at this; omega))
                      have K4 := Lib.hid k4
                      clear hW4 B4 k4 hc4 c3 x0 b0 xa xb
                      with_reducible refine CS.out.mono ?_
                      rintro r w5 ⟨rfl, op', S', nx', ck', D', k6, p6, m6⟩
                      have hD' : D'.length ≤ es.length := by have h8 := p6.inv.count; rw [List.length_map] at h8; omega
                      have KK := Lib.hid (And.intro k6 p6)
                      clear k6 p6 CS
                      go_wp2_with fail
                      go_roundg (S'.length + (es.length - D'.length))
                      case measure => omega
                      case rel => exact ⟨_, _, op', S', nx', ck', _, D', KK.out.1, KK.out.2, Nat.le_refl _⟩

                · obtain rfl : S = [] := Classical.not_not.1 hS
                  have CP := Lib.hid (popNoneA_K k5.q)
                  have c6 := k5.c.2.2.2.2.2
                  have HK := Lib.hid (And.intro k5 p5)
                  clear HR k5 p5 m5 hS
                  go_wp2_with fail
                  with_reducible refine CP.out.mono ?_
                  rintro r w2 ⟨rfl, q2, e2⟩
                  have k2 := HK.out.1.effT e2 q2
                  have z1 : w2.cell? ⟨hb, 1, none⟩ = some (.slice A es.length ecap) := by simp only [World.cell?, k2.hdr]; rfl
                  obtain ⟨W3, hW3⟩ : ∃ W, W = w2.alloc (.cells #[.int .i64 0, .int .i64 0, .int .i64 0] 110) := ⟨_, rfl⟩
                  have B3 : Below w2.heap.size w2 W3 := by rw [hW3]; exact (Below.refl _ _).alloc (Nat.le_refl _) _
                  have K3 := Lib.hid (k2.bel B3)
                  have z1 : (w2.alloc (.cells #[.int .i64 0, .int .i64 0, .int .i64 0] 110)).cell? ⟨hb, 1, none⟩ = some (.slice A es.length ecap) := by rw [← hW3]; simp only [World.cell?, K3.out.hdr]; rfl
                  have HW3 := Lib.hid hW3
                  have EOK : Hid (∀ e ∈ es.map REd.plain, K.OkE n e) := edges_ok HOK.out
                  have FX := Lib.hid (And.intro (HK.out.2.fix EOK.out) HK.out.2.inv)
                  clear k2 q2 e2 hW3 B3 CP c6
                  go_wp2_with fail
                  rw [← HW3.out]
                  clear z1
                  go_loopg [152] es.length (fun gk sk wr => ∃ k : Nat, sk = .int .i64 k ∧ k ≤ es.length ∧ es.length - k ≤ gk ∧ Hid (∃ f, KSt w wr s bv bs bo bu be g hb n ecap A es st v op us (K.uses (es.map REd.plain)) f [] nx ck ∧ K.ChosenTo (es.map REd.plain) n v f k))
                  case atStart => exact ⟨0, rfl, by omega, by omega, _, K3.out, K.ChosenTo.start _ _ _⟩
                  case round =>
                    clear K3 HW3
                    obtain ⟨k, rfl, hi, hk, HR⟩ := hrel
                    by_cases hlt : k < es.length
                    · skip
                      as_aux_lemma =>
                        have hlz : (k : Int) < (es.length : Int) := by omega
                        obtain ⟨f, k1, ch⟩ := HR.out
                        obtain ⟨e, he⟩ : ∃ e, es[k]? = some e := ⟨_, List.getElem?_eq_getElem hlt⟩
                        have hok := HOK.out e (List.mem_of_getElem? he)
                        have hti := HA.out.tails e (List.mem_of_getElem? he)
                        obtain ⟨eb0, eo, hAe, hr0⟩ := HA.out.at_ k e he
                        have HEK : Hid ((es.map REd.plain)[k]? = some e.plain) := by show _ = _; rw [List.getElem?_map, he]; rfl
                        obtain ⟨hn', hhn⟩ : ∃ x, e.head.toNat = x := ⟨_, rfl⟩
                        have hhe : e.head = (hn' : Int) := by rw [← hhn, Int.toNat_of_nonneg hok.1]
                        have hhl : hn' < n := by have := hok.2.1; omega
                        have hph : e.plain.head = hn' := hhn
                        obtain ⟨y1, hy1⟩ : ∃ x, (K.comb e.plain v).1 = x := ⟨_, rfl⟩
                        obtain ⟨y2, hy2⟩ : ∃ x, (K.comb e.plain v).2 = x := ⟨_, rfl⟩
                        have hEV : encV (K.comb e.plain v) = [.int .i64 y1, .int .i64 y2] := by unfold encV; rw [hy1, hy2]
                        have hcomb : K.comb e.plain v = (y1, y2) := Prod.ext hy1 hy2
                        obtain ⟨a1, ha1⟩ : ∃ x, (v hn').1 = x := ⟨_, rfl⟩
                        obtain ⟨a2, ha2⟩ : ∃ x, (v hn').2 = x := ⟨_, rfl⟩
                        have hvv : v hn' = (a1, a2) := Prod.ext ha1 ha2
                        obtain ⟨fh, hfh⟩ : ∃ x, f hn' = x := ⟨_, rfl⟩
                        obtain ⟨W2, hW2⟩ : ∃ W, W = wr.alloc (.cells #[.int .i64 hn', .slice e.A e.tails.length e.cap, .int .i64 e.cost, .int .i64 e.l0, .int .i64 e.l1] 60) := ⟨_, rfl⟩
                        obtain ⟨xb, hxb⟩ : ∃ b, b = wr.heap.size := ⟨_, rfl⟩
                        have B2 : Below wr.heap.size wr W2 := by rw [hW2]; exact (Below.refl _ _).alloc (Nat.le_refl _) _
                        have k2 := k1.bel B2
                        have C82 := combine82 (w := W2.drew) (k2.bel (Below.refl _ _).drew).sol (k2.bel (Below.refl _ _).drew).vals e (((hti.below k1.below).below B2).below (Below.refl _ _).drew) hok FX.out.2.ok
                        rw [hhe, hEV] at C82
                        obtain ⟨eA, ec, head, tails, cost, l0, l1⟩ := e
                        have CC : Hid (Calls Try.prog 82 #[.pointer (some ⟨s, 0, none⟩), .agg #[.int .i64 hn', .slice eA tails.length ec, .int .i64 cost, .int .i64 l0, .int .i64 l1]] W2.drew fun r w' => r = .returned (.agg #[.int .i64 y1, .int .i64 y2]) ∧ Below W2.drew.heap.size W2.drew w') := C82
                        have hhe : head = (hn' : Int) := hhe
                        have hr : wr.rangeAt eb0 (eo + k * 5) [.int .i64 head, .slice eA tails.length ec, .int .i64 cost, .int .i64 l0, .int .i64 l1] := fun j u hu => (k1.below.cell (World.block_lt_of_cell? w _ (hr0 j u hu))).trans (hr0 j u hu)
                        have z0 : wr.cell? ⟨eb0, eo + k * 5, none⟩ = some (.int .i64 hn') := by have := hr 0 _ rfl; rwa [hhe] at this
                        have z1 : wr.cell? ⟨eb0, eo + k * 5 + 1, none⟩ = some (.slice eA tails.length ec) := hr 1 _ rfl
                        have z2 : wr.cell? ⟨eb0, eo + k * 5 + 2, none⟩ = some (.int .i64 cost) := hr 2 _ rfl
                        have z3 : wr.cell? ⟨eb0, eo + k * 5 + 3, none⟩ = some (.int .i64 l0) := hr 3 _ rfl
                        have z4 : wr.cell? ⟨eb0, eo + k * 5 + 4, none⟩ = some (.int .i64 l1) := hr 4 _ rfl
                        have X2 : Hid (W2.heap[xb]? = some (.cells #[.int .i64 hn', .slice eA tails.length ec, .int .i64 cost, .int .i64 l0, .int .i64 l1] 60 (0, 0))) := by show _ = _; rw [hW2, hxb]; exact heap_alloc_new wr _
                        have K2 := Lib.hid k2
                        have HW2 := Lib.hid (And.intro hW2 hxb)
                        have HF := Lib.hid hfh
                        have HCH := Lib.hid ch
                        have HSV := Lib.hid (K.Inv.settled FX.out.2 hn' hhl)
                        have HCV := Lib.hid (And.intro hcomb (And.intro hvv hph))
                        have hfneg : Hid (fh < 0 ↔ fh = -1) := by
                          constructor
                          · intro h
                            by_cases h1 : fh = -1
                            · exact h1
                            · obtain ⟨k', h2, _⟩ := ch.some hn' hhl (by rw [hfh]; exact h1)
                              rw [hfh] at h2
                              omega
                          · intro h; omega
                        subst hAe
                        clear HR k1 ch he hok hti hr0 hhn hhe hph hy1 hy2 hEV hcomb ha1 ha2 hvv hfh hW2 hxb B2 k2 C82 hr
                        go_wp2_with fail
                        rw [← HW2.out.1, ← HW2.out.2]
                        clear z0 z1 z2 z3 z4
                        have x0 : W2.cell? ⟨xb, 0, none⟩ = some (.int .i64 hn') := by simp only [World.cell?, X2.out]; rfl
                        have q0 : W2.cell? ⟨be, hn', none⟩ = some (.int .i64 fh) := by rw [← HF.out]; exact K2.out.edg.cell hhl
                        have c3 := K2.out.c.2.2.1
                        have c2 := K2.out.c.2.1
                        have hhz : (hn' : Int) < (n : Int) := by omega
                        by_cases hf : fh < 0
                        · have g1 : decide (fh < 0) = true := decide_eq_true hf
                          have HFN : Hid (fh = -1) := hfneg.out.1 hf
                          cases hst : st hn' with
                          | false =>
                            have b0 : W2.cell? ⟨bs, hn', none⟩ = some (.bool false) := by have := K2.out.sett.cell hhl; rwa [hst] at this
                            have NX : Hid (K.ChosenTo (es.map REd.plain) n v f (k + 1)) := HCH.out.no HEK.out (fun h => by
                              have := HSV.out.2 (by rw [← HCV.out.2.2]; exact h.2.1)
                              rw [hst] at this
                              cases this)
                            clear hst hf
                            go_quiet (fail)
                            go_wp2_with fail
                            go_roundg (es.length - (k + 1))
                            case measure => omega
                            case rel => exact ⟨k + 1, by go_num, by omega, by omega, f, K2.out.bel (below_drewN (Below.refl _ _) nq), NX.out⟩
                          | true =>
                            have b0 : W2.cell? ⟨bs, hn', none⟩ = some (.bool true) := by have := K2.out.sett.cell hhl; rwa [hst] at this
                            have hvf := HSV.out.1 hst
                            have XR : W2.rangeAt xb 0 [.int .i64 hn', .slice eA tails.length ec, .int .i64 cost, .int .i64 l0, .int .i64 l1] := box_range (L := [.int .i64 hn', .slice eA tails.length ec, .int .i64 cost, .int .i64 l0, .int .i64 l1]) X2.out 0 _ (fun j v h => by rw [Nat.zero_add]; exact h)
                            have VR : W2.rangeAt bv (hn' * 2) [.int .i64 a1, .int .i64 a2] := by have := K2.out.vals.at_ hn' hhl; rw [HCV.out.2.1] at this; exact this
                            clear hst g1
                            by_cases h1 : y1 = a1
                            · by_cases h2 : y2 = a2
                              · have NX : Hid (K.ChosenTo (es.map REd.plain) n v (K.upd f hn' k) (k + 1)) := by
                                  have := HCH.out.yes HEK.out (by rw [HCV.out.2.2, HF.out]; exact HFN.out) (by rw [HCV.out.2.2]; exact hhl) (by rw [HCV.out.2.2]; exact ⟨hvf, by rw [HCV.out.1, HCV.out.2.1, h1, h2]⟩)
                                  rwa [HCV.out.2.2] at this
                                subst h1
                                subst h2
                                clear hvf
                                refine start_ (n := 30) (S := fun w' => w'.cell? ⟨xb, 0, none⟩ = some (.int .i64 hn') ∧ w'.cell? ⟨be, hn', none⟩ = some (.int .i64 fh) ∧ w'.cell? ⟨s, 3, none⟩ = some (.slice (some ⟨bs, 0, none⟩) n n) ∧ w'.cell? ⟨bs, hn', none⟩ = some (.bool true) ∧ w'.rangeAt xb 0 [.int .i64 hn', .slice eA tails.length ec, .int .i64 cost, .int .i64 l0, .int .i64 l1] ∧ w'.cell? ⟨s, 2, none⟩ = some (.slice (some ⟨bv, 0, none⟩) n n) ∧ w'.rangeAt bv (hn' * 2) [.int .i64 y1, .int .i64 y2]) (ds := []) #[false, false, false, false, false, false, false, false, false, false, false, false, false, false, false, false, false, false, false, false, false, false, false, false, false, false, false, false, false, false] (by kernel_rfl) rfl rfl ⟨x0, q0, c3, b0, XR, c2, VR⟩ (fun hHeld => ?_)
                                refine pure_ (i := 0) (N := some 157) (v := ?_) (a' := ?_) #[true, false, false, false, false, false, false, false, false, false, false, false, false, false, false, false, false, false, false, false, false, false, false, false, false, false, false, false, false, false] rfl rfl (by kernel_rfl) (fun _ _ _ h => h) (Or.inl ⟨by rfl, ?_⟩) ?_ ?_
                                rotate_left
                                · intro w'
                                  go_simp
                                  with_reducible rfl
                                rotate_left
                                · simp only [Act.put, List.setIfInBounds_toArray, List.set_cons_zero, List.set_cons_succ, i64_w, i32_w]
                                  rfl
                                refine pure_ (i := 1) (N := some 158) (v := ?_) (a' := ?_) #[true, true, false, false, false, false, false, false, false, false, false, false, false, false, false, false, false, false, false, false, false, false, false, false, false, false, false, false, false, false] rfl rfl (by kernel_rfl) (fun _ _ _ h => h) (Or.inl ⟨by rfl, ?_⟩) ?_ ?_
                                rotate_left
                                · intro w'
                                  go_simp
                                  with_reducible rfl
                                rotate_left
                                · simp only [Act.put, List.setIfInBounds_toArray, List.set_cons_zero, List.set_cons_succ, i64_w, i32_w]
                                  rfl
                                refine take_ (i := 2) (N := some 159) (v := ?_) (a' := ?_) #[true, true, true, false, false, false, false, false, false, false, false, false, false, false, false, false, false, false, false, false, false, false, false, false, false, false, false, false, false, false] rfl rfl (by kernel_rfl) (fun _ _ _ h => h) (Or.inl ⟨by rfl, ?_⟩) hHeld ?_ ?_
                                rotate_left
                                · rintro w' ⟨s0, s1, s2, s3, s4, s5, s6⟩
                                  go_simp
                                  with_reducible rfl
                                rotate_left
                                · simp only [Act.put, List.setIfInBounds_toArray, List.set_cons_zero, List.set_cons_succ, i64_w, i32_w]
                                  rfl
                                refine pure_ (i := 3) (N := some 160) (v := ?_) (a' := ?_) #[true, true, true, true, false, false, false, false, false, false, false, false, false, false, false, false, false, false, false, false, false, false, false, false, false, false, false, false, false, false] rfl rfl (by kernel_rfl) (fun _ _ _ h => h) (Or.inl ⟨by rfl, ?_⟩) ?_ ?_
                                rotate_left
                                · intro w'
                                  go_simp
                                  with_reducible rfl
                                rotate_left
                                · simp only [Act.put, List.setIfInBounds_toArray, List.set_cons_zero, List.set_cons_succ, i64_w, i32_w]
                                  rfl
                                refine take_ (i := 4) (N := some 161) (v := ?_) (a' := ?_) #[true, true, true, true, true, false, false, false, false, false, false, false, false, false, false, false, false, false, false, false, false, false, false, false, false, false, false, false, false, false] rfl rfl (by kernel_rfl) (fun _ _ _ h => h) (Or.inl ⟨by rfl, ?_⟩) hHeld ?_ ?_
                                rotate_left
                                · rintro w' ⟨s0, s1, s2, s3, s4, s5, s6⟩
                                  go_simp
                                  with_reducible rfl
                                rotate_left
                                · simp only [Act.put, List.setIfInBounds_toArray, List.set_cons_zero, List.set_cons_succ, i64_w, i32_w]
                                  rfl
                                refine pure_ (i := 5) (N := some 162) (v := ?_) (a' := ?_) #[true, true, true, true, true, true, false, false, false, false, false, false, false, false, false, false, false, false, false, false, false, false, false, false, false, false, false, false, false, false] rfl rfl (by kernel_rfl) (fun _ _ _ h => h) (Or.inl ⟨by rfl, ?_⟩) ?_ ?_
                                rotate_left
                                · intro w'
                                  go_simp
                                  with_reducible rfl
                                rotate_left
                                · simp only [Act.put, List.setIfInBounds_toArray, List.set_cons_zero, List.set_cons_succ, i64_w, i32_w]
                                  rfl
                                refine pure_ (i := 6) (N := some 163) (v := ?_) (a' := ?_) #[true, true, true, true, true, true, true, false, false, false, false, false, false, false, false, false, false, false, false, false, false, false, false, false, false, false, false, false, false, false] rfl rfl (by kernel_rfl) (fun _ _ _ h => h) (Or.inl ⟨by rfl, ?_⟩) ?_ ?_
                                rotate_left
                                · intro w'
                                  go_simp
                                  with_reducible rfl
                                rotate_left
                                · simp only [Act.put, List.setIfInBounds_toArray, List.set_cons_zero, List.set_cons_succ, i64_w, i32_w]
                                  rfl
                                refine pure_ (i := 7) (N := some 164) (v := ?_) (a' := ?_) #[true, true, true, true, true, true, true, true, false, false, false, false, false, false, false, false, false, false, false, false, false, false, false, false, false, false, false, false, false, false] rfl rfl (by kernel_rfl) (fun _ _ _ h => h) (Or.inl ⟨by rfl, ?_⟩) ?_ ?_
                                rotate_left
                                · intro w'
                                  go_simp
                                  with_reducible rfl
                                rotate_left
                                · simp only [Act.put, List.setIfInBounds_toArray, List.set_cons_zero, List.set_cons_succ, i64_w, i32_w]
                                  rfl
                                refine pure_ (i := 8) (N := some 165) (v := ?_) (a' := ?_) #[true, true, true, true, true, true, true, true, true, false, false, false, false, false, false, false, false, false, false, false, false, false, false, false, false, false, false, false, false, false] rfl rfl (by kernel_rfl) (fun _ _ _ h => h) (Or.inl ⟨by rfl, ?_⟩) ?_ ?_
                                rotate_left
                                · intro w'
                                  go_simp
                                  with_reducible rfl
                                rotate_left
                                · simp only [Act.put, List.setIfInBounds_toArray, List.set_cons_zero, List.set_cons_succ, i64_w, i32_w]
                                  rfl
                                refine pure_ (i := 9) (N := some 166) (v := ?_) (a' := ?_) #[true, true, true, true, true, true, true, true, true, true, false, false, false, false, false, false, false, false, false, false, false, false, false, false, false, false, false, false, false, false] rfl rfl (by kernel_rfl) (fun _ _ _ h => h) (Or.inl ⟨by rfl, ?_⟩) ?_ ?_
                                rotate_left
                                · intro w'
                                  go_simp
                                  with_reducible rfl
                                rotate_left
                                · simp only [Act.put, List.setIfInBounds_toArray, List.set_cons_zero, List.set_cons_succ, i64_w, i32_w]
                                  rfl
                                refine pure_ (i := 11) (N := some 168) (v := ?_) (a' := ?_) #[true, true, true, true, true, true, true, true, true, true, false, true, false, false, false, false, false, false, false, false, false, false, false, false, false, false, false, false, false, false] rfl rfl (by kernel_rfl) (fun _ _ _ h => h) (Or.inl ⟨by rfl, ?_⟩) ?_ ?_
                                rotate_left
                                · intro w'
                                  go_simp
                                  with_reducible rfl
                                rotate_left
                                · simp only [Act.put, List.setIfInBounds_toArray, List.set_cons_zero, List.set_cons_succ, i64_w, i32_w]
                                  rfl
                                refine take_ (i := 10) (N := some 167) (v := ?_) (a' := ?_) #[true, true, true, true, true, true, true, true, true, true, true, true, false, false, false, false, false, false, false, false, false, false, false, false, false, false, false, false, false, false] rfl rfl (by kernel_rfl) (fun _ _ _ h => h) (Or.inl ⟨by rfl, ?_⟩) hHeld ?_ ?_
                                rotate_left
                                · rintro w' ⟨s0, s1, s2, s3, s4, s5, s6⟩
                                  go_simp
                                  with_reducible rfl
                                rotate_left
                                · simp only [Act.put, List.setIfInBounds_toArray, List.set_cons_zero, List.set_cons_succ, i64_w, i32_w]
                                  rfl
                                refine take_ (i := 12) (N := some 169) (v := ?_) (a' := ?_) #[true, true, true, true, true, true, true, true, true, true, true, true, true, false, false, false, false, false, false, false, false, false, false, false, false, false, false, false, false, false] rfl rfl (by kernel_rfl) (fun _ _ _ h => h) (Or.inl ⟨by rfl, ?_⟩) hHeld ?_ ?_
                                rotate_left
                                · rintro w' ⟨s0, s1, s2, s3, s4, s5, s6⟩
                                  go_simp
                                  with_reducible rfl
                                rotate_left
                                · simp only [Act.put, List.setIfInBounds_toArray, List.set_cons_zero, List.set_cons_succ, i64_w, i32_w]
                                  rfl
                                refine pure_ (i := 13) (N := some 170) (v := ?_) (a' := ?_) #[true, true, true, true, true, true, true, true, true, true, true, true, true, true, false, false, false, false, false, false, false, false, false, false, false, false, false, false, false, false] rfl rfl (by kernel_rfl) (fun _ _ _ h => h) (Or.inl ⟨by rfl, ?_⟩) ?_ ?_
                                rotate_left
                                · intro w'
                                  go_simp
                                  with_reducible rfl
                                rotate_left
                                · simp only [Act.put, List.setIfInBounds_toArray, List.set_cons_zero, List.set_cons_succ, i64_w, i32_w]
                                  rfl
                                refine take_ (i := 14) (N := some 171) (v := ?_) (a' := ?_) #[true, true, true, true, true, true, true, true, true, true, true, true, true, true, true, false, false, false, false, false, false, false, false, false, false, false, false, false, false, false] rfl rfl (by kernel_rfl) (fun _ _ _ h => h) (Or.inl ⟨by rfl, ?_⟩) hHeld ?_ ?_
                                rotate_left
                                · rintro w' ⟨s0, s1, s2, s3, s4, s5, s6⟩
                                  go_simp
                                  with_reducible rfl
                                rotate_left
                                · simp only [Act.put, List.setIfInBounds_toArray, List.set_cons_zero, List.set_cons_succ, i64_w, i32_w]
                                  rfl
                                refine pure_ (i := 15) (N := some 172) (v := ?_) (a' := ?_) #[true, true, true, true, true, true, true, true, true, true, true, true, true, true, true, true, false, false, false, false, false, false, false, false, false, false, false, false, false, false] rfl rfl (by kernel_rfl) (fun _ _ _ h => h) (Or.inl ⟨by rfl, ?_⟩) ?_ ?_
                                rotate_left
                                · intro w'
                                  go_simp
                                  with_reducible rfl
                                rotate_left
                                · simp only [Act.put, List.setIfInBounds_toArray, List.set_cons_zero, List.set_cons_succ, i64_w, i32_w]
                                  rfl
                                refine pure_ (i := 16) (N := some 173) (v := ?_) (a' := ?_) #[true, true, true, true, true, true, true, true, true, true, true, true, true, true, true, true, true, false, false, false, false, false, false, false, false, false, false, false, false, false] rfl rfl (by kernel_rfl) (fun _ _ _ h => h) (Or.inl ⟨by rfl, ?_⟩) ?_ ?_
                                rotate_left
                                · intro w'
                                  go_simp
                                  with_reducible rfl
                                rotate_left
                                · simp only [Act.put, List.setIfInBounds_toArray, List.set_cons_zero, List.set_cons_succ, i64_w, i32_w]
                                  rfl
                                refine pure_ (i := 17) (N := some 174) (v := ?_) (a' := ?_) #[true, true, true, true, true, true, true, true, true, true, true, true, true, true, true, true, true, true, false, false, false, false, false, false, false, false, false, false, false, false] rfl rfl (by kernel_rfl) (fun _ _ _ h => h) (Or.inl ⟨by rfl, ?_⟩) ?_ ?_
                                rotate_left
                                · intro w'
                                  go_simp
                                  with_reducible rfl
                                rotate_left
                                · simp only [Act.put, List.setIfInBounds_toArray, List.set_cons_zero, List.set_cons_succ, i64_w, i32_w]
                                  rfl
                                refine pure_ (i := 20) (N := some 177) (v := ?_) (a' := ?_) #[true, true, true, true, true, true, true, true, true, true, true, true, true, true, true, true, true, true, false, false, true, false, false, false, false, false, false, false, false, false] rfl rfl (by kernel_rfl) (fun _ _ _ h => h) (Or.inl ⟨by rfl, ?_⟩) ?_ ?_
                                rotate_left
                                · intro w'
                                  go_simp
                                  with_reducible rfl
                                rotate_left
                                · simp only [Act.put, List.setIfInBounds_toArray, List.set_cons_zero, List.set_cons_succ, i64_w, i32_w]
                                  rfl
                                refine pure_ (i := 21) (N := some 178) (v := ?_) (a' := ?_) #[true, true, true, true, true, true, true, true, true, true, true, true, true, true, true, true, true, true, false, false, true, true, false, false, false, false, false, false, false, false] rfl rfl (by kernel_rfl) (fun _ _ _ h => h) (Or.inl ⟨by rfl, ?_⟩) ?_ ?_
                                rotate_left
                                · intro w'
                                  go_simp
                                  with_reducible rfl
                                rotate_left
                                · simp only [Act.put, List.setIfInBounds_toArray, List.set_cons_zero, List.set_cons_succ, i64_w, i32_w]
                                  rfl
                                refine pure_ (i := 22) (N := some 179) (v := ?_) (a' := ?_) #[true, true, true, true, true, true, true, true, true, true, true, true, true, true, true, true, true, true, false, false, true, true, true, false, false, false, false, false, false, false] rfl rfl (by kernel_rfl) (fun _ _ _ h => h) (Or.inl ⟨by rfl, ?_⟩) ?_ ?_
                                rotate_left
                                · intro w'
                                  go_simp
                                  with_reducible rfl
                                rotate_left
                                · simp only [Act.put, List.setIfInBounds_toArray, List.set_cons_zero, List.set_cons_succ, i64_w, i32_w]
                                  rfl
                                refine pure_ (i := 24) (N := some 181) (v := ?_) (a' := ?_) #[true, true, true, true, true, true, true, true, true, true, true, true, true, true, true, true, true, true, false, false, true, true, true, false, true, false, false, false, false, false] rfl rfl (by kernel_rfl) (fun _ _ _ h => h) (Or.inl ⟨by rfl, ?_⟩) ?_ ?_
                                rotate_left
                                · intro w'
                                  go_simp
                                  with_reducible rfl
                                rotate_left
                                · simp only [Act.put, List.setIfInBounds_toArray, List.set_cons_zero, List.set_cons_succ, i64_w, i32_w]
                                  rfl
                                refine take_ (i := 18) (N := some 175) (a' := ?_) #[true, true, true, true, true, true, true, true, true, true, true, true, true, true, true, true, true, true, true, false, true, true, true, false, true, false, false, false, false, false] rfl rfl (by kernel_rfl) (fun _ _ _ h => h) (yieldsIf_load_mid (by rfl) 60 _ rfl xb 0 (by rfl) [.int .i64 hn', .slice eA tails.length ec, .int .i64 cost, .int .i64 l0, .int .i64 l1] _ (fun w' h => h.2.2.2.2.1) Try.underlying60 rfl (by kernel_rfl)) hHeld ?_ ?_
                                rotate_left
                                · simp only [Act.put, List.setIfInBounds_toArray, List.set_cons_zero, List.set_cons_succ, i64_w, i32_w]
                                  rfl
                                refine take_ (i := 23) (N := some 180) (v := ?_) (a' := ?_) #[true, true, true, true, true, true, true, true, true, true, true, true, true, true, true, true, true, true, true, false, true, true, true, true, true, false, false, false, false, false] rfl rfl (by kernel_rfl) (fun _ _ _ h => h) (Or.inl ⟨by rfl, ?_⟩) hHeld ?_ ?_
                                rotate_left
                                · rintro w' ⟨s0, s1, s2, s3, s4, s5, s6⟩
                                  go_simp
                                  with_reducible rfl
                                rotate_left
                                · simp only [Act.put, List.setIfInBounds_toArray, List.set_cons_zero, List.set_cons_succ, i64_w, i32_w]
                                  rfl
                                refine take_ (i := 25) (N := some 182) (v := ?_) (a' := ?_) #[true, true, true, true, true, true, true, true, true, true, true, true, true, true, true, true, true, true, true, false, true, true, true, true, true, true, false, false, false, false] rfl rfl (by kernel_rfl) (fun _ _ _ h => h) (Or.inl ⟨by rfl, ?_⟩) hHeld ?_ ?_
                                rotate_left
                                · rintro w' ⟨s0, s1, s2, s3, s4, s5, s6⟩
                                  go_simp
                                  with_reducible rfl
                                rotate_left
                                · simp only [Act.put, List.setIfInBounds_toArray, List.set_cons_zero, List.set_cons_succ, i64_w, i32_w]
                                  rfl
                                refine pure_ (i := 26) (N := some 183) (v := ?_) (a' := ?_) #[true, true, true, true, true, true, true, true, true, true, true, true, true, true, true, true, true, true, true, false, true, true, true, true, true, true, true, false, false, false] rfl rfl (by kernel_rfl) (fun _ _ _ h => h) (Or.inl ⟨by rfl, ?_⟩) ?_ ?_
                                rotate_left
                                · intro w'
                                  go_simp
                                  with_reducible rfl
                                rotate_left
                                · simp only [Act.put, List.setIfInBounds_toArray, List.set_cons_zero, List.set_cons_succ, i64_w, i32_w]
                                  rfl
                                refine take_ (i := 27) (N := some 184) (a' := ?_) #[true, true, true, true, true, true, true, true, true, true, true, true, true, true, true, true, true, true, true, false, true, true, true, true, true, true, true, true, false, false] rfl rfl (by kernel_rfl) (fun _ _ _ h => h) (yieldsIf_load_mid (by rfl) 54 _ rfl bv (hn' * 2) (by rfl) [.int .i64 y1, .int .i64 y2] _ (fun w' h => h.2.2.2.2.2.2) Try.underlying54 rfl (by kernel_rfl)) hHeld ?_ ?_
                                rotate_left
                                · simp only [Act.put, List.setIfInBounds_toArray, List.set_cons_zero, List.set_cons_succ, i64_w, i32_w]
                                  rfl
                                refine one_ (i := 19) (N := some 176) #[true, true, true, true, true, true, true, true, true, true, true, true, true, true, true, true, true, true, true, true, true, true, true, true, true, true, true, true, false, false] rfl rfl (by kernel_rfl) (by decide) (fun K hK => ?_)
                                refine goesV_ Try.func82 (by kernel_rfl) rfl #[.pointer (some ⟨s, 0, none⟩), .agg #[.int .i64 hn', .slice eA tails.length ec, .int .i64 cost, .int .i64 l0, .int .i64 l1]] (by rfl) rfl rfl (by rfl) (by simp only [List.map_toArray, List.map_cons, List.map_nil]; rfl) ?_
                                with_reducible refine CC.out.mono ?_
                                rintro r w5 ⟨rfl, b5⟩
                                have BB5 := Lib.hid b5
                                refine ⟨_, rfl, ?_⟩
                                refine hK.out _ _ ⟨((Eff.of_below b5 (fun _ => False)).cell hHeld.1 (fun h => h)), ((Eff.of_below b5 (fun _ => False)).cell hHeld.2.1 (fun h => h)), ((Eff.of_below b5 (fun _ => False)).cell hHeld.2.2.1 (fun h => h)), ((Eff.of_below b5 (fun _ => False)).cell hHeld.2.2.2.1 (fun h => h)), (rangeAt_eff hHeld.2.2.2.2.1 (Eff.of_below b5 (fun _ => False)) (fun h => h)), ((Eff.of_below b5 (fun _ => False)).cell hHeld.2.2.2.2.2.1 (fun h => h)), (rangeAt_eff hHeld.2.2.2.2.2.2 (Eff.of_below b5 (fun _ => False)) (fun h => h))⟩ (fun hHeld => ?_)
                                clear hK K
                                refine norm_ (a' := ?_) ?_ ?_
                                rotate_left
                                · show Act.put _ (some 176) _ = _
                                  simp only [Act.put, List.setIfInBounds_toArray, List.set_cons_zero, List.set_cons_succ, i64_w, i32_w]
                                  rfl
                                refine pure_ (i := 28) (N := some 185) (v := ?_) (a' := ?_) #[true, true, true, true, true, true, true, true, true, true, true, true, true, true, true, true, true, true, true, true, true, true, true, true, true, true, true, true, true, false] rfl rfl (by kernel_rfl) (fun _ _ _ h => h) (Or.inl ⟨by rfl, ?_⟩) ?_ ?_
                                rotate_left
                                · intro w'
                                  go_simp
                                  with_reducible rfl
                                rotate_left
                                · simp only [Act.put, List.setIfInBounds_toArray, List.set_cons_zero, List.set_cons_succ, i64_w, i32_w]
                                  rfl
                                refine pure_ (i := 29) (N := some 186) (v := ?_) (a' := ?_) #[true, true, true, true, true, true, true, true, true, true, true, true, true, true, true, true, true, true, true, true, true, true, true, true, true, true, true, true, true, true] rfl rfl (by kernel_rfl) (fun _ _ _ h => h) (Or.inl ⟨by rfl, ?_⟩) ?_ ?_
                                rotate_left
                                · intro w'
                                  go_simp
                                  with_reducible rfl
                                rotate_left
                                · simp only [Act.put, List.setIfInBounds_toArray, List.set_cons_zero, List.set_cons_succ, i64_w, i32_w]
                                  rfl
                                refine done_ (by kernel_rfl) ?_
                                clear hHeld x0 q0 c3 b0 XR c2 VR
                                have K5 := Lib.hid (K2.out.bel ((Below.refl _ _).drew.trans BB5.out))
                                have e0 : w5.cell? ⟨xb, 0, none⟩ = some (.int .i64 hn') := by have := below_heap BB5.out (show W2.drew.heap[xb]? = _ from X2.out); simp only [World.cell?, this]; rfl
                                have e1 : w5.cell? ⟨be, hn', none⟩ = some (.int .i64 fh) := by rw [← HF.out]; exact K5.out.edg.cell hhl
                                have e2 : w5.frozen? ⟨be, hn', none⟩ = false := K5.out.edg.frozen hn'
                                go_wp2_with fail
                                go_roundg (es.length - (k + 1))
                                case measure => omega
                                case rel => exact ⟨k + 1, by go_num, by omega, by omega, _, K5.out.setEf hn' k, NX.out⟩
                              · have NX : Hid (K.ChosenTo (es.map REd.plain) n v f (k + 1)) := HCH.out.no HEK.out (fun h => h2 (by
                                  have h3 := h.2.2
                                  rw [HCV.out.1, HCV.out.2.2, HCV.out.2.1] at h3
                                  exact congrArg Prod.snd h3))
                                have g3 : (y1 == a1) = true := beq_iff_eq.2 h1
                                have g4 : (y2 == a2) = false := beq_eq_false_iff_ne.2 h2
                                clear h1 h2 hvf
                                refine start_ (n := 30) (S := fun w' => w'.cell? ⟨xb, 0, none⟩ = some (.int .i64 hn') ∧ w'.cell? ⟨be, hn', none⟩ = some (.int .i64 fh) ∧ w'.cell? ⟨s, 3, none⟩ = some (.slice (some ⟨bs, 0, none⟩) n n) ∧ w'.cell? ⟨bs, hn', none⟩ = some (.bool true) ∧ w'.rangeAt xb 0 [.int .i64 hn', .slice eA tails.length ec, .int .i64 cost, .int .i64 l0, .int .i64 l1] ∧ w'.cell? ⟨s, 2, none⟩ = some (.slice (some ⟨bv, 0, none⟩) n n) ∧ w'.rangeAt bv (hn' * 2) [.int .i64 a1, .int .i64 a2]) (ds := []) #[false, false, false, false, false, false, false, false, false, false, false, false, false, false, false, false, false, false, false, false, false, false, false, false, false, false, false, false, false, false] (by kernel_rfl) rfl rfl ⟨x0, q0, c3, b0, XR, c2, VR⟩ (fun hHeld => ?_)
                                refine pure_ (i := 0) (N := some 157) (v := ?_) (a' := ?_) #[true, false, false, false, false, false, false, false, false, false, false, false, false, false, false, false, false, false, false, false, false, false, false, false, false, false, false, false, false, false] rfl rfl (by kernel_rfl) (fun _ _ _ h => h) (Or.inl ⟨by rfl, ?_⟩) ?_ ?_
                                rotate_left
                                · intro w'
                                  go_simp
                                  with_reducible rfl
                                rotate_left
                                · simp only [Act.put, List.setIfInBounds_toArray, List.set_cons_zero, List.set_cons_succ, i64_w, i32_w]
                                  rfl
                                refine pure_ (i := 1) (N := some 158) (v := ?_) (a' := ?_) #[true, true, false, false, false, false, false, false, false, false, false, false, false, false, false, false, false, false, false, false, false, false, false, false, false, false, false, false, false, false] rfl rfl (by kernel_rfl) (fun _ _ _ h => h) (Or.inl ⟨by rfl, ?_⟩) ?_ ?_
                                rotate_left
                                · intro w'
                                  go_simp
                                  with_reducible rfl
                                rotate_left
                                · simp only [Act.put, List.setIfInBounds_toArray, List.set_cons_zero, List.set_cons_succ, i64_w, i32_w]
                                  rfl
                                refine take_ (i := 2) (N := some 159) (v := ?_) (a' := ?_) #[true, true, true, false, false, false, false, false, false, false, false, false, false, false, false, false, false, false, false, false, false, false, false, false, false, false, false, false, false, false] rfl rfl (by kernel_rfl) (fun _ _ _ h => h) (Or.inl ⟨by rfl, ?_⟩) hHeld ?_ ?_
                                rotate_left
                                · rintro w' ⟨s0, s1, s2, s3, s4, s5, s6⟩
                                  go_simp
                                  with_reducible rfl
                                rotate_left
                                · simp only [Act.put, List.setIfInBounds_toArray, List.set_cons_zero, List.set_cons_succ, i64_w, i32_w]
                                  rfl
                                refine pure_ (i := 3) (N := some 160) (v := ?_) (a' := ?_) #[true, true, true, true, false, false, false, false, false, false, false, false, false, false, false, false, false, false, false, false, false, false, false, false, false, false, false, false, false, false] rfl rfl (by kernel_rfl) (fun _ _ _ h => h) (Or.inl ⟨by rfl, ?_⟩) ?_ ?_
                                rotate_left
                                · intro w'
                                  go_simp
                                  with_reducible rfl
                                rotate_left
                                · simp only [Act.put, List.setIfInBounds_toArray, List.set_cons_zero, List.set_cons_succ, i64_w, i32_w]
                                  rfl
                                refine take_ (i := 4) (N := some 161) (v := ?_) (a' := ?_) #[true, true, true, true, true, false, false, false, false, false, false, false, false, false, false, false, false, false, false, false, false, false, false, false, false, false, false, false, false, false] rfl rfl (by kernel_rfl) (fun _ _ _ h => h) (Or.inl ⟨by rfl, ?_⟩) hHeld ?_ ?_
                                rotate_left
                                · rintro w' ⟨s0, s1, s2, s3, s4, s5, s6⟩
                                  go_simp
                                  with_reducible rfl
                                rotate_left
                                · simp only [Act.put, List.setIfInBounds_toArray, List.set_cons_zero, List.set_cons_succ, i64_w, i32_w]
                                  rfl
                                refine pure_ (i := 5) (N := some 162) (v := ?_) (a' := ?_) #[true, true, true, true, true, true, false, false, false, false, false, false, false, false, false, false, false, false, false, false, false, false, false, false, false, false, false, false, false, false] rfl rfl (by kernel_rfl) (fun _ _ _ h => h) (Or.inl ⟨by rfl, ?_⟩) ?_ ?_
                                rotate_left
                                · intro w'
                                  go_simp
                                  with_reducible rfl
                                rotate_left
                                · simp only [Act.put, List.setIfInBounds_toArray, List.set_cons_zero, List.set_cons_succ, i64_w, i32_w]
                                  rfl
                                refine pure_ (i := 6) (N := some 163) (v := ?_) (a' := ?_) #[true, true, true, true, true, true, true, false, false, false, false, false, false, false, false, false, false, false, false, false, false, false, false, false, false, false, false, false, false, false] rfl rfl (by kernel_rfl) (fun _ _ _ h => h) (Or.inl ⟨by rfl, ?_⟩) ?_ ?_
                                rotate_left
                                · intro w'
                                  go_simp
                                  with_reducible rfl
                                rotate_left
                                · simp only [Act.put, List.setIfInBounds_toArray, List.set_cons_zero, List.set_cons_succ, i64_w, i32_w]
                                  rfl
                                refine pure_ (i := 7) (N := some 164) (v := ?_) (a' := ?_) #[true, true, true, true, true, true, true, true, false, false, false, false, false, false, false, false, false, false, false, false, false, false, false, false, false, false, false, false, false, false] rfl rfl (by kernel_rfl) (fun _ _ _ h => h) (Or.inl ⟨by rfl, ?_⟩) ?_ ?_
                                rotate_left
                                · intro w'
                                  go_simp
                                  with_reducible rfl
                                rotate_left
                                · simp only [Act.put, List.setIfInBounds_toArray, List.set_cons_zero, List.set_cons_succ, i64_w, i32_w]
                                  rfl
                                refine pure_ (i := 8) (N := some 165) (v := ?_) (a' := ?_) #[true, true, true, true, true, true, true, true, true, false, false, false, false, false, false, false, false, false, false, false, false, false, false, false, false, false, false, false, false, false] rfl rfl (by kernel_rfl) (fun _ _ _ h => h) (Or.inl ⟨by rfl, ?_⟩) ?_ ?_
                                rotate_left
                                · intro w'
                                  go_simp
                                  with_reducible rfl
                                rotate_left
                                · simp only [Act.put, List.setIfInBounds_toArray, List.set_cons_zero, List.set_cons_succ, i64_w, i32_w]
                                  rfl
                                refine pure_ (i := 9) (N := some 166) (v := ?_) (a' := ?_) #[true, true, true, true, true, true, true, true, true, true, false, false, false, false, false, false, false, false, false, false, false, false, false, false, false, false, false, false, false, false] rfl rfl (by kernel_rfl) (fun _ _ _ h => h) (Or.inl ⟨by rfl, ?_⟩) ?_ ?_
                                rotate_left
                                · intro w'
                                  go_simp
                                  with_reducible rfl
                                rotate_left
                                · simp only [Act.put, List.setIfInBounds_toArray, List.set_cons_zero, List.set_cons_succ, i64_w, i32_w]
                                  rfl
                                refine pure_ (i := 11) (N := some 168) (v := ?_) (a' := ?_) #[true, true, true, true, true, true, true, true, true, true, false, true, false, false, false, false, false, false, false, false, false, false, false, false, false, false, false, false, false, false] rfl rfl (by kernel_rfl) (fun _ _ _ h => h) (Or.inl ⟨by rfl, ?_⟩) ?_ ?_
                                rotate_left
                                · intro w'
                                  go_simp
                                  with_reducible rfl
                                rotate_left
                                · simp only [Act.put, List.setIfInBounds_toArray, List.set_cons_zero, List.set_cons_succ, i64_w, i32_w]
                                  rfl
                                refine take_ (i := 10) (N := some 167) (v := ?_) (a' := ?_) #[true, true, true, true, true, true, true, true, true, true, true, true, false, false, false, false, false, false, false, false, false, false, false, false, false, false, false, false, false, false] rfl rfl (by kernel_rfl) (fun _ _ _ h => h) (Or.inl ⟨by rfl, ?_⟩) hHeld ?_ ?_
                                rotate_left
                                · rintro w' ⟨s0, s1, s2, s3, s4, s5, s6⟩
                                  go_simp
                                  with_reducible rfl
                                rotate_left
                                · simp only [Act.put, List.setIfInBounds_toArray, List.set_cons_zero, List.set_cons_succ, i64_w, i32_w]
                                  rfl
                                refine take_ (i := 12) (N := some 169) (v := ?_) (a' := ?_) #[true, true, true, true, true, true, true, true, true, true, true, true, true, false, false, false, false, false, false, false, false, false, false, false, false, false, false, false, false, false] rfl rfl (by kernel_rfl) (fun _ _ _ h => h) (Or.inl ⟨by rfl, ?_⟩) hHeld ?_ ?_
                                rotate_left
                                · rintro w' ⟨s0, s1, s2, s3, s4, s5, s6⟩
                                  go_simp
                                  with_reducible rfl
                                rotate_left
                                · simp only [Act.put, List.setIfInBounds_toArray, List.set_cons_zero, List.set_cons_succ, i64_w, i32_w]
                                  rfl
                                refine pure_ (i := 13) (N := some 170) (v := ?_) (a' := ?_) #[true, true, true, true, true, true, true, true, true, true, true, true, true, true, false, false, false, false, false, false, false, false, false, false, false, false, false, false, false, false] rfl rfl (by kernel_rfl) (fun _ _ _ h => h) (Or.inl ⟨by rfl, ?_⟩) ?_ ?_
                                rotate_left
                                · intro w'
                                  go_simp
                                  with_reducible rfl
                                rotate_left
                                · simp only [Act.put, List.setIfInBounds_toArray, List.set_cons_zero, List.set_cons_succ, i64_w, i32_w]
                                  rfl
                                refine take_ (i := 14) (N := some 171) (v := ?_) (a' := ?_) #[true, true, true, true, true, true, true, true, true, true, true, true, true, true, true, false, false, false, false, false, false, false, false, false, false, false, false, false, false, false] rfl rfl (by kernel_rfl) (fun _ _ _ h => h) (Or.inl ⟨by rfl, ?_⟩) hHeld ?_ ?_
                                rotate_left
                                · rintro w' ⟨s0, s1, s2, s3, s4, s5, s6⟩
                                  go_simp
                                  with_reducible rfl
                                rotate_left
                                · simp only [Act.put, List.setIfInBounds_toArray, List.set_cons_zero, List.set_cons_succ, i64_w, i32_w]
                                  rfl
                                refine pure_ (i := 15) (N := some 172) (v := ?_) (a' := ?_) #[true, true, true, true, true, true, true, true, true, true, true, true, true, true, true, true, false, false, false, false, false, false, false, false, false, false, false, false, false, false] rfl rfl (by kernel_rfl) (fun _ _ _ h => h) (Or.inl ⟨by rfl, ?_⟩) ?_ ?_
                                rotate_left
                                · intro w'
                                  go_simp
                                  with_reducible rfl
                                rotate_left
                                · simp only [Act.put, List.setIfInBounds_toArray, List.set_cons_zero, List.set_cons_succ, i64_w, i32_w]
                                  rfl
                                refine pure_ (i := 16) (N := some 173) (v := ?_) (a' := ?_) #[true, true, true, true, true, true, true, true, true, true, true, true, true, true, true, true, true, false, false, false, false, false, false, false, false, false, false, false, false, false] rfl rfl (by kernel_rfl) (fun _ _ _ h => h) (Or.inl ⟨by rfl, ?_⟩) ?_ ?_
                                rotate_left
                                · intro w'
                                  go_simp
                                  with_reducible rfl
                                rotate_left
                                · simp only [Act.put, List.setIfInBounds_toArray, List.set_cons_zero, List.set_cons_succ, i64_w, i32_w]
                                  rfl
                                refine pure_ (i := 17) (N := some 174) (v := ?_) (a' := ?_) #[true, true, true, true, true, true, true, true, true, true, true, true, true, true, true, true, true, true, false, false, false, false, false, false, false, false, false, false, false, false] rfl rfl (by kernel_rfl) (fun _ _ _ h => h) (Or.inl ⟨by rfl, ?_⟩) ?_ ?_
                                rotate_left
                                · intro w'
                                  go_simp
                                  with_reducible rfl
                                rotate_left
                                · simp only [Act.put, List.setIfInBounds_toArray, List.set_cons_zero, List.set_cons_succ, i64_w, i32_w]
                                  rfl
                                refine pure_ (i := 20) (N := some 177) (v := ?_) (a' := ?_) #[true, true, true, true, true, true, true, true, true, true, true, true, true, true, true, true, true, true, false, false, true, false, false, false, false, false, false, false, false, false] rfl rfl (by kernel_rfl) (fun _ _ _ h => h) (Or.inl ⟨by rfl, ?_⟩) ?_ ?_
                                rotate_left
                                · intro w'
                                  go_simp
                                  with_reducible rfl
                                rotate_left
                                · simp only [Act.put, List.setIfInBounds_toArray, List.set_cons_zero, List.set_cons_succ, i64_w, i32_w]
                                  rfl
                                refine pure_ (i := 21) (N := some 178) (v := ?_) (a' := ?_) #[true, true, true, true, true, true, true, true, true, true, true, true, true, true, true, true, true, true, false, false, true, true, false, false, false, false, false, false, false, false] rfl rfl (by kernel_rfl) (fun _ _ _ h => h) (Or.inl ⟨by rfl, ?_⟩) ?_ ?_
                                rotate_left
                                · intro w'
                                  go_simp
                                  with_reducible rfl
                                rotate_left
                                · simp only [Act.put, List.setIfInBounds_toArray, List.set_cons_zero, List.set_cons_succ, i64_w, i32_w]
                                  rfl
                                refine pure_ (i := 22) (N := some 179) (v := ?_) (a' := ?_) #[true, true, true, true, true, true, true, true, true, true, true, true, true, true, true, true, true, true, false, false, true, true, true, false, false, false, false, false, false, false] rfl rfl (by kernel_rfl) (fun _ _ _ h => h) (Or.inl ⟨by rfl, ?_⟩) ?_ ?_
                                rotate_left
                                · intro w'
                                  go_simp
                                  with_reducible rfl
                                rotate_left
                                · simp only [Act.put, List.setIfInBounds_toArray, List.set_cons_zero, List.set_cons_succ, i64_w, i32_w]
                                  rfl
                                refine pure_ (i := 24) (N := some 181) (v := ?_) (a' := ?_) #[true, true, true, true, true, true, true, true, true, true, true, true, true, true, true, true, true, true, false, false, true, true, true, false, true, false, false, false, false, false] rfl rfl (by kernel_rfl) (fun _ _ _ h => h) (Or.inl ⟨by rfl, ?_⟩) ?_ ?_
                                rotate_left
                                · intro w'
                                  go_simp
                                  with_reducible rfl
                                rotate_left
                                · simp only [Act.put, List.setIfInBounds_toArray, List.set_cons_zero, List.set_cons_succ, i64_w, i32_w]
                                  rfl
                                refine take_ (i := 18) (N := some 175) (a' := ?_) #[true, true, true, true, true, true, true, true, true, true, true, true, true, true, true, true, true, true, true, false, true, true, true, false, true, false, false, false, false, false] rfl rfl (by kernel_rfl) (fun _ _ _ h => h) (yieldsIf_load_mid (by rfl) 60 _ rfl xb 0 (by rfl) [.int .i64 hn', .slice eA tails.length ec, .int .i64 cost, .int .i64 l0, .int .i64 l1] _ (fun w' h => h.2.2.2.2.1) Try.underlying60 rfl (by kernel_rfl)) hHeld ?_ ?_
                                rotate_left
                                · simp only [Act.put, List.setIfInBounds_toArray, List.set_cons_zero, List.set_cons_succ, i64_w, i32_w]
                                  rfl
                                refine take_ (i := 23) (N := some 180) (v := ?_) (a' := ?_) #[true, true, true, true, true, true, true, true, true, true, true, true, true, true, true, true, true, true, true, false, true, true, true, true, true, false, false, false, false, false] rfl rfl (by kernel_rfl) (fun _ _ _ h => h) (Or.inl ⟨by rfl, ?_⟩) hHeld ?_ ?_
                                rotate_left
                                · rintro w' ⟨s0, s1, s2, s3, s4, s5, s6⟩
                                  go_simp
                                  with_reducible rfl
                                rotate_left
                                · simp only [Act.put, List.setIfInBounds_toArray, List.set_cons_zero, List.set_cons_succ, i64_w, i32_w]
                                  rfl
                                refine take_ (i := 25) (N := some 182) (v := ?_) (a' := ?_) #[true, true, true, true, true, true, true, true, true, true, true, true, true, true, true, true, true, true, true, false, true, true, true, true, true, true, false, false, false, false] rfl rfl (by kernel_rfl) (fun _ _ _ h => h) (Or.inl ⟨by rfl, ?_⟩) hHeld ?_ ?_
                                rotate_left
                                · rintro w' ⟨s0, s1, s2, s3, s4, s5, s6⟩
                                  go_simp
                                  with_reducible rfl
                                rotate_left
                                · simp only [Act.put, List.setIfInBounds_toArray, List.set_cons_zero, List.set_cons_succ, i64_w, i32_w]
                                  rfl
                                refine pure_ (i := 26) (N := some 183) (v := ?_) (a' := ?_) #[true, true, true, true, true, true, true, true, true, true, true, true, true, true, true, true, true, true, true, false, true, true, true, true, true, true, true, false, false, false] rfl rfl (by kernel_rfl) (fun _ _ _ h => h) (Or.inl ⟨by rfl, ?_⟩) ?_ ?_
                                rotate_left
                                · intro w'
                                  go_simp
                                  with_reducible rfl
                                rotate_left
                                · simp only [Act.put, List.setIfInBounds_toArray, List.set_cons_zero, List.set_cons_succ, i64_w, i32_w]
                                  rfl
                                refine take_ (i := 27) (N := some 184) (a' := ?_) #[true, true, true, true, true, true, true, true, true, true, true, true, true, true, true, true, true, true, true, false, true, true, true, true, true, true, true, true, false, false] rfl rfl (by kernel_rfl) (fun _ _ _ h => h) (yieldsIf_load_mid (by rfl) 54 _ rfl bv (hn' * 2) (by rfl) [.int .i64 a1, .int .i64 a2] _ (fun w' h => h.2.2.2.2.2.2) Try.underlying54 rfl (by kernel_rfl)) hHeld ?_ ?_
                                rotate_left
                                · simp only [Act.put, List.setIfInBounds_toArray, List.set_cons_zero, List.set_cons_succ, i64_w, i32_w]
                                  rfl
                                refine one_ (i := 19) (N := some 176) #[true, true, true, true, true, true, true, true, true, true, true, true, true, true, true, true, true, true, true, true, true, true, true, true, true, true, true, true, false, false] rfl rfl (by kernel_rfl) (by decide) (fun K hK => ?_)
                                refine goesV_ Try.func82 (by kernel_rfl) rfl #[.pointer (some ⟨s, 0, none⟩), .agg #[.int .i64 hn', .slice eA tails.length ec, .int .i64 cost, .int .i64 l0, .int .i64 l1]] (by rfl) rfl rfl (by rfl) (by simp only [List.map_toArray, List.map_cons, List.map_nil]; rfl) ?_
                                with_reducible refine CC.out.mono ?_
                                rintro r w5 ⟨rfl, b5⟩
                                have BB5 := Lib.hid b5
                                refine ⟨_, rfl, ?_⟩
                                refine hK.out _ _ ⟨((Eff.of_below b5 (fun _ => False)).cell hHeld.1 (fun h => h)), ((Eff.of_below b5 (fun _ => False)).cell hHeld.2.1 (fun h => h)), ((Eff.of_below b5 (fun _ => False)).cell hHeld.2.2.1 (fun h => h)), ((Eff.of_below b5 (fun _ => False)).cell hHeld.2.2.2.1 (fun h => h)), (rangeAt_eff hHeld.2.2.2.2.1 (Eff.of_below b5 (fun _ => False)) (fun h => h)), ((Eff.of_below b5 (fun _ => False)).cell hHeld.2.2.2.2.2.1 (fun h => h)), (rangeAt_eff hHeld.2.2.2.2.2.2 (Eff.of_below b5 (fun _ => False)) (fun h => h))⟩ (fun hHeld => ?_)
                                clear hK K
                                refine norm_ (a' := ?_) ?_ ?_
                                rotate_left
                                · show Act.put _ (some 176) _ = _
                                  simp only [Act.put, List.setIfInBounds_toArray, List.set_cons_zero, List.set_cons_succ, i64_w, i32_w]
                                  rfl
                                refine pure_ (i := 28) (N := some 185) (v := ?_) (a' := ?_) #[true, true, true, true, true, true, true, true, true, true, true, true, true, true, true, true, true, true, true, true, true, true, true, true, true, true, true, true, true, false] rfl rfl (by kernel_rfl) (fun _ _ _ h => h) (Or.inl ⟨by rfl, ?_⟩) ?_ ?_
                                rotate_left
                                · intro w'
                                  go_simp
                                  with_reducible rfl
                                rotate_left
                                · simp only [Act.put, List.setIfInBounds_toArray, List.set_cons_zero, List.set_cons_succ, i64_w, i32_w]
                                  rfl
                                refine pure_ (i := 29) (N := some 186) (v := ?_) (a' := ?_) #[true, true, true, true, true, true, true, true, true, true, true, true, true, true, true, true, true, true, true, true, true, true, true, true, true, true, true, true, true, true] rfl rfl (by kernel_rfl) (fun _ _ _ h => h) (Or.inl ⟨by rfl, ?_⟩) ?_ ?_
                                rotate_left
                                · intro w'
                                  go_simp
                                  with_reducible rfl
                                rotate_left
                                · simp only [Act.put, List.setIfInBounds_toArray, List.set_cons_zero, List.set_cons_succ, i64_w, i32_w]
                                  rfl
                                refine done_ (by kernel_rfl) ?_
                                clear hHeld x0 q0 c3 b0 XR c2 VR
                                have K5 := Lib.hid (K2.out.bel ((Below.refl _ _).drew.trans BB5.out))
                                go_wp2_with fail
                                go_roundg (es.length - (k + 1))
                                case measure => omega
                                case rel => exact ⟨k + 1, by go_num, by omega, by omega, _, K5.out, NX.out⟩
                            · have NX : Hid (K.ChosenTo (es.map REd.plain) n v f (k + 1)) := HCH.out.no HEK.out (fun h => h1 (by
                                have h3 := h.2.2
                                rw [HCV.out.1, HCV.out.2.2, HCV.out.2.1] at h3
                                exact congrArg Prod.fst h3))
                              have g3 : (y1 == a1) = false := beq_eq_false_iff_ne.2 h1
                              clear h1 hvf
                              refine start_ (n := 30) (S := fun w' => w'.cell? ⟨xb, 0, none⟩ = some (.int .i64 hn') ∧ w'.cell? ⟨be, hn', none⟩ = some (.int .i64 fh) ∧ w'.cell? ⟨s, 3, none⟩ = some (.slice (some ⟨bs, 0, none⟩) n n) ∧ w'.cell? ⟨bs, hn', none⟩ = some (.bool true) ∧ w'.rangeAt xb 0 [.int .i64 hn', .slice eA tails.length ec, .int .i64 cost, .int .i64 l0, .int .i64 l1] ∧ w'.cell? ⟨s, 2, none⟩ = some (.slice (some ⟨bv, 0, none⟩) n n) ∧ w'.rangeAt bv (hn' * 2) [.int .i64 a1, .int .i64 a2]) (ds := []) #[false, false, false, false, false, false, false, false, false, false, false, false, false, false, false, false, false, false, false, false, false, false, false, false, false, false, false, false, false, false] (by kernel_rfl) rfl rfl ⟨x0, q0, c3, b0, XR, c2, VR⟩ (fun hHeld => ?_)
                              refine pure_ (i := 0) (N := some 157) (v := ?_) (a' := ?_) #[true, false, false, false, false, false, false, false, false, false, false, false, false, false, false, false, false, false, false, false, false, false, false, false, false, false, false, false, false, false] rfl rfl (by kernel_rfl) (fun _ _ _ h => h) (Or.inl ⟨by rfl, ?_⟩) ?_ ?_
                              rotate_left
                              · intro w'
                                go_simp
                                with_reducible rfl
                              rotate_left
                              · simp only [Act.put, List.setIfInBounds_toArray, List.set_cons_zero, List.set_cons_succ, i64_w, i32_w]
                                rfl
                              refine pure_ (i := 1) (N := some 158) (v := ?_) (a' := ?_) #[true, true, false, false, false, false, false, false, false, false, false, false, false, false, false, false, false, false, false, false, false, false, false, false, false, false, false, false, false, false] rfl rfl (by kernel_rfl) (fun _ _ _ h => h) (Or.inl ⟨by rfl, ?_⟩) ?_ ?_
                              rotate_left
                              · intro w'
                                go_simp
                                with_reducible rfl
                              rotate_left
                              · simp only [Act.put, List.setIfInBounds_toArray, List.set_cons_zero, List.set_cons_succ, i64_w, i32_w]
                                rfl
                              refine take_ (i := 2) (N := some 159) (v := ?_) (a' := ?_) #[true, true, true, false, false, false, false, false, false, false, false, false, false, false, false, false, false, false, false, false, false, false, false, false, false, false, false, false, false, false] rfl rfl (by kernel_rfl) (fun _ _ _ h => h) (Or.inl ⟨by rfl, ?_⟩) hHeld ?_ ?_
                              rotate_left
                              · rintro w' ⟨s0, s1, s2, s3, s4, s5, s6⟩
                                go_simp
                                with_reducible rfl
                              rotate_left
                              · simp only [Act.put, List.setIfInBounds_toArray, List.set_cons_zero, List.set_cons_succ, i64_w, i32_w]
                                rfl
                              refine pure_ (i := 3) (N := some 160) (v := ?_) (a' := ?_) #[true, true, true, true, false, false, false, false, false, false, false, false, false, false, false, false, false, false, false, false, false, false, false, false, false, false, false, false, false, false] rfl rfl (by kernel_rfl) (fun _ _ _ h => h) (Or.inl ⟨by rfl, ?_⟩) ?_ ?_
                              rotate_left
                              · intro w'
                                go_simp
                                with_reducible rfl
                              rotate_left
                              · simp only [Act.put, List.setIfInBounds_toArray, List.set_cons_zero, List.set_cons_succ, i64_w, i32_w]
                                rfl
                              refine take_ (i := 4) (N := some 161) (v := ?_) (a' := ?_) #[true, true, true, true, true, false, false, false, false, false, false, false, false, false, false, false, false, false, false, false, false, false, false, false, false, false, false, false, false, false] rfl rfl (by kernel_rfl) (fun _ _ _ h => h) (Or.inl ⟨by rfl, ?_⟩) hHeld ?_ ?_
                              rotate_left
                              · rintro w' ⟨s0, s1, s2, s3, s4, s5, s6⟩
                                go_simp
                                with_reducible rfl
                              rotate_left
                              · simp only [Act.put, List.setIfInBounds_toArray, List.set_cons_zero, List.set_cons_succ, i64_w, i32_w]
                                rfl
                              refine pure_ (i := 5) (N := some 162) (v := ?_) (a' := ?_) #[true, true, true, true, true, true, false, false, false, false, false, false, false, false, false, false, false, false, false, false, false, false, false, false, false, false, false, false, false, false] rfl rfl (by kernel_rfl) (fun _ _ _ h => h) (Or.inl ⟨by rfl, ?_⟩) ?_ ?_
                              rotate_left
                              · intro w'
                                go_simp
                                with_reducible rfl
                              rotate_left
                              · simp only [Act.put, List.setIfInBounds_toArray, List.set_cons_zero, List.set_cons_succ, i64_w, i32_w]
                                rfl
                              refine pure_ (i := 6) (N := some 163) (v := ?_) (a' := ?_) #[true, true, true, true, true, true, true, false, false, false, false, false, false, false, false, false, false, false, false, false, false, false, false, false, false, false, false, false, false, false] rfl rfl (by kernel_rfl) (fun _ _ _ h => h) (Or.inl ⟨by rfl, ?_⟩) ?_ ?_
                              rotate_left
                              · intro w'
                                go_simp
                                with_reducible rfl
                              rotate_left
                              · simp only [Act.put, List.setIfInBounds_toArray, List.set_cons_zero, List.set_cons_succ, i64_w, i32_w]
                                rfl
                              refine pure_ (i := 7) (N := some 164) (v := ?_) (a' := ?_) #[true, true, true, true, true, true, true, true, false, false, false, false, false, false, false, false, false, false, false, false, false, false, false, false, false, false, false, false, false, false] rfl rfl (by kernel_rfl) (fun _ _ _ h => h) (Or.inl ⟨by rfl, ?_⟩) ?_ ?_
                              rotate_left
                              · intro w'
                                go_simp
                                with_reducible rfl
                              rotate_left
                              · simp only [Act.put, List.setIfInBounds_toArray, List.set_cons_zero, List.set_cons_succ, i64_w, i32_w]
                                rfl
                              refine pure_ (i := 8) (N := some 165) (v := ?_) (a' := ?_) #[true, true, true, true, true, true, true, true, true, false, false, false, false, false, false, false, false, false, false, false, false, false, false, false, false, false, false, false, false, false] rfl rfl (by kernel_rfl) (fun _ _ _ h => h) (Or.inl ⟨by rfl, ?_⟩) ?_ ?_
                              rotate_left
                              · intro w'
                                go_simp
                                with_reducible rfl
                              rotate_left
                              · simp only [Act.put, List.setIfInBounds_toArray, List.set_cons_zero, List.set_cons_succ, i64_w, i32_w]
                                rfl
                              refine pure_ (i := 9) (N := some 166) (v := ?_) (a' := ?_) #[true, true, true, true, true, true, true, true, true, true, false, false, false, false, false, false, false, false, false, false, false, false, false, false, false, false, false, false, false, false] rfl rfl (by kernel_rfl) (fun _ _ _ h => h) (Or.inl ⟨by rfl, ?_⟩) ?_ ?_
                              rotate_left
                              · intro w'
                                go_simp
                                with_reducible rfl
                              rotate_left
                              · simp only [Act.put, List.setIfInBounds_toArray, List.set_cons_zero, List.set_cons_succ, i64_w, i32_w]
                                rfl
                              refine pure_ (i := 11) (N := some 168) (v := ?_) (a' := ?_) #[true, true, true, true, true, true, true, true, true, true, false, true, false, false, false, false, false, false, false, false, false, false, false, false, false, false, false, false, false, false] rfl rfl (by kernel_rfl) (fun _ _ _ h => h) (Or.inl ⟨by rfl, ?_⟩) ?_ ?_
                              rotate_left
                              · intro w'
                                go_simp
                                with_reducible rfl
                              rotate_left
                              · simp only [Act.put, List.setIfInBounds_toArray, List.set_cons_zero, List.set_cons_succ, i64_w, i32_w]
                                rfl
                              refine take_ (i := 10) (N := some 167) (v := ?_) (a' := ?_) #[true, true, true, true, true, true, true, true, true, true, true, true, false, false, false, false, false, false, false, false, false, false, false, false, false, false, false, false, false, false] rfl rfl (by kernel_rfl) (fun _ _ _ h => h) (Or.inl ⟨by rfl, ?_⟩) hHeld ?_ ?_
                              rotate_left
                              · rintro w' ⟨s0, s1, s2, s3, s4, s5, s6⟩
                                go_simp
                                with_reducible rfl
                              rotate_left
                              · simp only [Act.put, List.setIfInBounds_toArray, List.set_cons_zero, List.set_cons_succ, i64_w, i32_w]
                                rfl
                              refine take_ (i := 12) (N := some 169) (v := ?_) (a' := ?_) #[true, true, true, true, true, true, true, true, true, true, true, true, true, false, false, false, false, false, false, false, false, false, false, false, false, false, false, false, false, false] rfl rfl (by kernel_rfl) (fun _ _ _ h => h) (Or.inl ⟨by rfl, ?_⟩) hHeld ?_ ?_
                              rotate_left
                              · rintro w' ⟨s0, s1, s2, s3, s4, s5, s6⟩
                                go_simp
                                with_reducible rfl
                              rotate_left
                              · simp only [Act.put, List.setIfInBounds_toArray, List.set_cons_zero, List.set_cons_succ, i64_w, i32_w]
                                rfl
                              refine pure_ (i := 13) (N := some 170) (v := ?_) (a' := ?_) #[true, true, true, true, true, true, true, true, true, true, true, true, true, true, false, false, false, false, false, false, false, false, false, false, false, false, false, false, false, false] rfl rfl (by kernel_rfl) (fun _ _ _ h => h) (Or.inl ⟨by rfl, ?_⟩) ?_ ?_
                              rotate_left
                              · intro w'
                                go_simp
                                with_reducible rfl
                              rotate_left
                              · simp only [Act.put, List.setIfInBounds_toArray, List.set_cons_zero, List.set_cons_succ, i64_w, i32_w]
                                rfl
                              refine take_ (i := 14) (N := some 171) (v := ?_) (a' := ?_) #[true, true, true, true, true, true, true, true, true, true, true, true, true, true, true, false, false, false, false, false, false, false, false, false, false, false, false, false, false, false] rfl rfl (by kernel_rfl) (fun _ _ _ h => h) (Or.inl ⟨by rfl, ?_⟩) hHeld ?_ ?_
                              rotate_left
                              · rintro w' ⟨s0, s1, s2, s3, s4, s5, s6⟩
                                go_simp
                                with_reducible rfl
                              rotate_left
                              · simp only [Act.put, List.setIfInBounds_toArray, List.set_cons_zero, List.set_cons_succ, i64_w, i32_w]
                                rfl
                              refine pure_ (i := 15) (N := some 172) (v := ?_) (a' := ?_) #[true, true, true, true, true, true, true, true, true, true, true, true, true, true, true, true, false, false, false, false, false, false, false, false, false, false, false, false, false, false] rfl rfl (by kernel_rfl) (fun _ _ _ h => h) (Or.inl ⟨by rfl, ?_⟩) ?_ ?_
                              rotate_left
                              · intro w'
                                go_simp
                                with_reducible rfl
                              rotate_left
                              · simp only [Act.put, List.setIfInBounds_toArray, List.set_cons_zero, List.set_cons_succ, i64_w, i32_w]
                                rfl
                              refine pure_ (i := 16) (N := some 173) (v := ?_) (a' := ?_) #[true, true, true, true, true, true, true, true, true, true, true, true, true, true, true, true, true, false, false, false, false, false, false, false, false, false, false, false, false, false] rfl rfl (by kernel_rfl) (fun _ _ _ h => h) (Or.inl ⟨by rfl, ?_⟩) ?_ ?_
                              rotate_left
                              · intro w'
                                go_simp
                                with_reducible rfl
                              rotate_left
                              · simp only [Act.put, List.setIfInBounds_toArray, List.set_cons_zero, List.set_cons_succ, i64_w, i32_w]
                                rfl
                              refine pure_ (i := 17) (N := some 174) (v := ?_) (a' := ?_) #[true, true, true, true, true, true, true, true, true, true, true, true, true, true, true, true, true, true, false, false, false, false, false, false, false, false, false, false, false, false] rfl rfl (by kernel_rfl) (fun _ _ _ h => h) (Or.inl ⟨by rfl, ?_⟩) ?_ ?_
                              rotate_left
                              · intro w'
                                go_simp
                                with_reducible rfl
                              rotate_left
                              · simp only [Act.put, List.setIfInBounds_toArray, List.set_cons_zero, List.set_cons_succ, i64_w, i32_w]
                                rfl
                              refine pure_ (i := 20) (N := some 177) (v := ?_) (a' := ?_) #[true, true, true, true, true, true, true, true, true, true, true, true, true, true, true, true, true, true, false, false, true, false, false, false, false, false, false, false, false, false] rfl rfl (by kernel_rfl) (fun _ _ _ h => h) (Or.inl ⟨by rfl, ?_⟩) ?_ ?_
                              rotate_left
                              · intro w'
                                go_simp
                                with_reducible rfl
                              rotate_left
                              · simp only [Act.put, List.setIfInBounds_toArray, List.set_cons_zero, List.set_cons_succ, i64_w, i32_w]
                                rfl
                              refine pure_ (i := 21) (N := some 178) (v := ?_) (a' := ?_) #[true, true, true, true, true, true, true, true, true, true, true, true, true, true, true, true, true, true, false, false, true, true, false, false, false, false, false, false, false, false] rfl rfl (by kernel_rfl) (fun _ _ _ h => h) (Or.inl ⟨by rfl, ?_⟩) ?_ ?_
                              rotate_left
                              · intro w'
                                go_simp
                                with_reducible rfl
                              rotate_left
                              · simp only [Act.put, List.setIfInBounds_toArray, List.set_cons_zero, List.set_cons_succ, i64_w, i32_w]
                                rfl
                              refine pure_ (i := 22) (N := some 179) (v := ?_) (a' := ?_) #[true, true, true, true, true, true, true, true, true, true, true, true, true, true, true, true, true, true, false, false, true, true, true, false, false, false, false, false, false, false] rfl rfl (by kernel_rfl) (fun _ _ _ h => h) (Or.inl ⟨by rfl, ?_⟩) ?_ ?_
                              rotate_left
                              · intro w'
                                go_simp
                                with_reducible rfl
                              rotate_left
                              · simp only [Act.put, List.setIfInBounds_toArray, List.set_cons_zero, List.set_cons_succ, i64_w, i32_w]
                                rfl
                              refine pure_ (i := 24) (N := some 181) (v := ?_) (a' := ?_) #[true, true, true, true, true, true, true, true, true, true, true, true, true, true, true, true, true, true, false, false, true, true, true, false, true, false, false, false, false, false] rfl rfl (by kernel_rfl) (fun _ _ _ h => h) (Or.inl ⟨by rfl, ?_⟩) ?_ ?_
                              rotate_left
                              · intro w'
                                go_simp
                                with_reducible rfl
                              rotate_left
                              · simp only [Act.put, List.setIfInBounds_toArray, List.set_cons_zero, List.set_cons_succ, i64_w, i32_w]
                                rfl
                              refine take_ (i := 18) (N := some 175) (a' := ?_) #[true, true, true, true, true, true, true, true, true, true, true, true, true, true, true, true, true, true, true, false, true, true, true, false, true, false, false, false, false, false] rfl rfl (by kernel_rfl) (fun _ _ _ h => h) (yieldsIf_load_mid (by rfl) 60 _ rfl xb 0 (by rfl) [.int .i64 hn', .slice eA tails.length ec, .int .i64 cost, .int .i64 l0, .int .i64 l1] _ (fun w' h => h.2.2.2.2.1) Try.underlying60 rfl (by kernel_rfl)) hHeld ?_ ?_
                              rotate_left
                              · simp only [Act.put, List.setIfInBounds_toArray, List.set_cons_zero, List.set_cons_succ, i64_w, i32_w]
                                rfl
                              refine take_ (i := 23) (N := some 180) (v := ?_) (a' := ?_) #[true, true, true, true, true, true, true, true, true, true, true, true, true, true, true, true, true, true, true, false, true, true, true, true, true, false, false, false, false, false] rfl rfl (by kernel_rfl) (fun _ _ _ h => h) (Or.inl ⟨by rfl, ?_⟩) hHeld ?_ ?_
                              rotate_left
                              · rintro w' ⟨s0, s1, s2, s3, s4, s5, s6⟩
                                go_simp
                                with_reducible rfl
                              rotate_left
                              · simp only [Act.put, List.setIfInBounds_toArray, List.set_cons_zero, List.set_cons_succ, i64_w, i32_w]
                                rfl
                              refine take_ (i := 25) (N := some 182) (v := ?_) (a' := ?_) #[true, true, true, true, true, true, true, true, true, true, true, true, true, true, true, true, true, true, true, false, true, true, true, true, true, true, false, false, false, false] rfl rfl (by kernel_rfl) (fun _ _ _ h => h) (Or.inl ⟨by rfl, ?_⟩) hHeld ?_ ?_
                              rotate_left
                              · rintro w' ⟨s0, s1, s2, s3, s4, s5, s6⟩
                                go_simp
                                with_reducible rfl
                              rotate_left
                              · simp only [Act.put, List.setIfInBounds_toArray, List.set_cons_zero, List.set_cons_succ, i64_w, i32_w]
                                rfl
                              refine pure_ (i := 26) (N := some 183) (v := ?_) (a' := ?_) #[true, true, true, true, true, true, true, true, true, true, true, true, true, true, true, true, true, true, true, false, true, true, true, true, true, true, true, false, false, false] rfl rfl (by kernel_rfl) (fun _ _ _ h => h) (Or.inl ⟨by rfl, ?_⟩) ?_ ?_
                              rotate_left
                              · intro w'
                                go_simp
                                with_reducible rfl
                              rotate_left
                              · simp only [Act.put, List.setIfInBounds_toArray, List.set_cons_zero, List.set_cons_succ, i64_w, i32_w]
                                rfl
                              refine take_ (i := 27) (N := some 184) (a' := ?_) #[true, true, true, true, true, true, true, true, true, true, true, true, true, true, true, true, true, true, true, false, true, true, true, true, true, true, true, true, false, false] rfl rfl (by kernel_rfl) (fun _ _ _ h => h) (yieldsIf_load_mid (by rfl) 54 _ rfl bv (hn' * 2) (by rfl) [.int .i64 a1, .int .i64 a2] _ (fun w' h => h.2.2.2.2.2.2) Try.underlying54 rfl (by kernel_rfl)) hHeld ?_ ?_
                              rotate_left
                              · simp only [Act.put, List.setIfInBounds_toArray, List.set_cons_zero, List.set_cons_succ, i64_w, i32_w]
                                rfl
                              refine one_ (i := 19) (N := some 176) #[true, true, true, true, true, true, true, true, true, true, true, true, true, true, true, true, true, true, true, true, true, true, true, true, true, true, true, true, false, false] rfl rfl (by kernel_rfl) (by decide) (fun K hK => ?_)
                              refine goesV_ Try.func82 (by kernel_rfl) rfl #[.pointer (some ⟨s, 0, none⟩), .agg #[.int .i64 hn', .slice eA tails.length ec, .int .i64 cost, .int .i64 l0, .int .i64 l1]] (by rfl) rfl rfl (by rfl) (by simp only [List.map_toArray, List.map_cons, List.map_nil]; rfl) ?_
                              with_reducible refine CC.out.mono ?_
                              rintro r w5 ⟨rfl, b5⟩
                              have BB5 := Lib.hid b5
                              refine ⟨_, rfl, ?_⟩
                              refine hK.out _ _ ⟨((Eff.of_below b5 (fun _ => False)).cell hHeld.1 (fun h => h)), ((Eff.of_below b5 (fun _ => False)).cell hHeld.2.1 (fun h => h)), ((Eff.of_below b5 (fun _ => False)).cell hHeld.2.2.1 (fun h => h)), ((Eff.of_below b5 (fun _ => False)).cell hHeld.2.2.2.1 (fun h => h)), (rangeAt_eff hHeld.2.2.2.2.1 (Eff.of_below b5 (fun _ => False)) (fun h => h)), ((Eff.of_below b5 (fun _ => False)).cell hHeld.2.2.2.2.2.1 (fun h => h)), (rangeAt_eff hHeld.2.2.2.2.2.2 (Eff.of_below b5 (fun _ => False)) (fun h => h))⟩ (fun hHeld => ?_)
                              clear hK K
                              refine norm_ (a' := ?_) ?_ ?_
                              rotate_left
                              · show Act.put _ (some 176) _ = _
                                simp only [Act.put, List.setIfInBounds_toArray, List.set_cons_zero, List.set_cons_succ, i64_w, i32_w]
                                rfl
                              refine pure_ (i := 28) (N := some 185) (v := ?_) (a' := ?_) #[true, true, true, true, true, true, true, true, true, true, true, true, true, true, true, true, true, true, true, true, true, true, true, true, true, true, true, true, true, false] rfl rfl (by kernel_rfl) (fun _ _ _ h => h) (Or.inl ⟨by rfl, ?_⟩) ?_ ?_
                              rotate_left
                              · intro w'
                                go_simp
                                with_reducible rfl
                              rotate_left
                              · simp only [Act.put, List.setIfInBounds_toArray, List.set_cons_zero, List.set_cons_succ, i64_w, i32_w]
                                rfl
                              refine pure_ (i := 29) (N := some 186) (v := ?_) (a' := ?_) #[true, true, true, true, true, true, true, true, true, true, true, true, true, true, true, true, true, true, true, true, true, true, true, true, true, true, true, true, true, true] rfl rfl (by kernel_rfl) (fun _ _ _ h => h) (Or.inl ⟨by rfl, ?_⟩) ?_ ?_
                              rotate_left
                              · intro w'
                                go_simp
                                with_reducible rfl
                              rotate_left
                              · simp only [Act.put, List.setIfInBounds_toArray, List.set_cons_zero, List.set_cons_succ, i64_w, i32_w]
                                rfl
                              refine done_ (by kernel_rfl) ?_
                              clear hHeld x0 q0 c3 b0 XR c2 VR
                              have K5 := Lib.hid (K2.out.bel ((Below.refl _ _).drew.trans BB5.out))
                              go_wp2_with fail
                              go_roundg (es.length - (k + 1))
                              case measure => omega
                              case rel => exact ⟨k + 1, by go_num, by omega, by omega, _, K5.out, NX.out⟩
                        · have g1 : decide (fh < 0) = false := decide_eq_false hf
                          have NX : Hid (K.ChosenTo (es.map REd.plain) n v f (k + 1)) := HCH.out.no HEK.out (fun h => hf (by
                            have h3 := h.1
                            rw [HCV.out.2.2, HF.out] at h3
                            omega))
                          clear hf
                          go_quiet (fail)
                          go_wp2_with fail
                          go_roundg (es.length - (k + 1))
                          case measure => omega
                          case rel => exact ⟨k + 1, by go_num, by omega, by omega, f, K2.out.bel (below_drewN (Below.refl _ _) nq), NX.out⟩

                    · have hlz : ¬ (k : Int) < (es.length : Int) := by omega
                      obtain rfl : es.length = k := by omega
                      clear hi hk
                      obtain ⟨f, k1, ch⟩ := HR.out
                      have c2 := k1.c.2.1
                      have KK := Lib.hid (And.intro k1 ch)
                      clear HR k1 ch hlt
                      go_wp2_with fail
                      refine bodyPost_ret (res_tt (p := 2) (u := 3) rfl _ _) rfl ?_
                      have hch := KK.out.2
                      rw [show es.length = (es.map REd.plain).length by rw [List.length_map]] at hch
                      exact ⟨bv, be, v, f, rfl, ⟨FX.out.1, hch.done⟩, KK.out.1.vals, KK.out.1.edg, KK.out.1.below, KK.out.1.ge.2.1, KK.out.1.ge.2.2.2.2.2⟩


end Go.Proofs.Ytepfbhigeghjjaa.Q
