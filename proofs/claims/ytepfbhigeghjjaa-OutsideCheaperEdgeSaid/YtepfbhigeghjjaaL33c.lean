/- OutsideCheaperEdge: the plain law and the walk. -/
import Derived.Test.YtepfbhigeghjjaaL33ca
import Derived.OpenShut
namespace Go.Proofs.Ytepfbhigeghjjaa.Q
open Go.RowKit Go.Proofs.YtepfbhigeghjjaaW.PrintLast
set_option linter.unusedVariables false
set_option linter.unusedSimpArgs false

theorem oc_cheaper {inn inn' : Nat → Int} {e e' : K.Ed} {d : Int} {k : Int} (ht : e'.tails = e.tails) (hc : e'.cost ≤ e.cost) (hi : ∀ t ∈ e.tails, inn' t ≤ inn t) : K.oc inn' e' d k ≤ K.oc inn e d k := by
  have := K.oth_mono k e.tails 0 hi
  unfold K.oc
  rw [ht]
  omega
theorem out_mono {E E' : List K.Ed} {n : Nat} {root : Int} {inn inn' out out' : Nat → Int} (hE : ∀ e ∈ E, K.OkE n e) (hs : ∀ e ∈ E, ∃ e' ∈ E', e'.head = e.head ∧ e'.tails = e.tails ∧ e'.cost ≤ e.cost) (hi : ∀ i, i < n → inn' i ≤ inn i) (h : OutIs E n inn root out) (h' : OutIs E' n inn' root out') : ∀ i, i < n → out' i ≤ out i := by
  by_cases hr : 0 ≤ root ∧ root < n
  · have k := h.1 hr
    have k' := h'.1 hr
    refine K.OSol.least (Int.le_of_eq k'.rt) (fun i hi => (k'.ok i hi).2) (fun e he q t ht => ?_) k
    obtain ⟨e', he', h1, h2, h3⟩ := hs e he
    have h4 := k'.le e' he' q t (by rw [h2]; exact ht)
    rw [h1] at h4
    exact Int.le_trans h4 (oc_cheaper h2 h3 (fun t ht => hi t ((hE e he).2.1 t ht)))
  · intro i hi
    rw [h.2 hr i hi, h'.2 hr i hi]
    exact Int.le_refl _
theorem rowQ_cheaper {E E' : List K.Ed} {n : Nat} {root : Int} {F : (Nat → Int) → (Nat → Int) → Nat → Int} (hE : ∀ e ∈ E, K.OkE n e) (hs : ∀ e ∈ E, ∃ e' ∈ E', e'.head = e.head ∧ e'.tails = e.tails ∧ e'.cost ≤ e.cost) (hF : ∀ (inn inn' out out' : Nat → Int) (i : Nat), inn' i ≤ inn i → out' i ≤ out i → F inn' out' i ≤ F inn out i) {g g' : Nat → Value} (h : RowQ E n root F g) (h' : RowQ E' n root F g') :
    ∃ p q : Nat → Int, g = intRow p ∧ g' = intRow q ∧ ∀ i, i < n → q i ≤ p i := by
  obtain ⟨v, f, out, h1, h2, rfl⟩ := h
  obtain ⟨v', f', out', k1, k2, rfl⟩ := h'
  have hv : ∀ i, i < n → (v' i).1 ≤ (v i).1 := fun i hi => by
    have h3 := K.mono_fix hE hs k1.fix h1.fix i hi
    rw [K.leV_iff] at h3
    omega
  have ho := out_mono hE hs (inn := fun i => (v i).1) (inn' := fun i => (v' i).1) hv h2 k2
  exact ⟨_, _, rfl, rfl, fun i hi => hF _ _ _ _ i (hv i hi) (ho i hi)⟩
theorem fOut_mono (inn inn' out out' : Nat → Int) (i : Nat) (_ : inn' i ≤ inn i) (h : out' i ≤ out i) : fOut inn' out' i ≤ fOut inn out i := h
theorem fThr_mono (inn inn' out out' : Nat → Int) (i : Nat) (h : inn' i ≤ inn i) (h' : out' i ≤ out i) : fThr inn' out' i ≤ fThr inn out i := by unfold fThr; omega
theorem cheaper_shape {es : List REd} {i : Nat} {e : REd} {x : Int} (he : es[i]? = some e) (hx : x ≤ e.cost) : ∀ a ∈ es.map REd.plain, ∃ a' ∈ (es.set i (costE e x)).map REd.plain, a'.head = a.head ∧ a'.tails = a.tails ∧ a'.cost ≤ a.cost := fun a ha => by
  obtain ⟨b, hb, rfl⟩ := List.mem_map.1 ha
  obtain ⟨j, hj⟩ := List.getElem?_of_mem hb
  by_cases hji : j = i
  · subst hji
    rw [he] at hj
    cases hj
    refine ⟨(costE e x).plain, List.mem_map.2 ⟨_, List.mem_of_getElem? (List.getElem?_set_self (List.getElem?_eq_some_iff.1 he).1), rfl⟩, rfl, rfl, hx⟩
  · exact ⟨b.plain, List.mem_map.2 ⟨b, List.mem_of_getElem? (by rw [List.getElem?_set_ne (fun h => hji h.symm)]; exact hj), rfl⟩, rfl, rfl, Int.le_refl _⟩
theorem ok_set {es : List REd} {n i : Nat} {e : REd} {x : Int} (hok : ∀ a ∈ es, a.ok n) (he : e.ok n) (h0 : 0 ≤ x) (h1 : x ≤ 1099511627776) : ∀ a ∈ es.set i (costE e x), a.ok n := fun a ha => by
  rcases List.mem_or_eq_of_mem_set ha with ha | rfl
  · exact hok a ha
  · exact ⟨he.1, he.2.1, he.2.2.1, h0, h1, he.2.2.2.2.2⟩

set_option maxHeartbeats 8000000 in
set_option maxRecDepth 100000 in
theorem cheaper_walk (n : Int) (A : Option Addr) (cap : Nat) (es : List REd) (root k : Int) (w : World) (hA : EdsIn w A es) (hk16 : (Lit.int .u16 k).wf = true) : Calls Try.prog 10 #[.agg #[.int .i64 n, .slice A es.length cap], .int .i64 root, .int .u16 k] w (TruePost w) := by
  have HA := Lib.hid hA
  have hkb := Go.bounds_u16 hk16
  clear hk16
  clear hA
  obtain ⟨W1, hW1⟩ : ∃ W, W = w.alloc (.cells #[.int .i64 n, .slice A es.length cap] 48) := ⟨_, rfl⟩
  obtain ⟨hb, hhb⟩ : ∃ b, b = w.heap.size := ⟨_, rfl⟩
  have B1 : Hid (Below w.heap.size w W1) := by rw [hW1]; exact (Below.refl _ _).alloc (Nat.le_refl _) _
  have H1 : Hid (HBZ W1 hb n es.length cap A) := by show W1.heap[hb]? = _; rw [hW1, hhb]; exact heap_alloc_new w _
  have HW1 := Lib.hid (And.intro hW1 hhb)
  have AW := Lib.hid (awake38 W1)
  clear hW1 hhb
  go_enter Try.func10, Try.ntmps10
  go_wp2_with fail
  rw [← HW1.out.1, ← HW1.out.2]
  with_reducible refine AW.out.mono ?_
  rintro r w2 ⟨rfl, b2⟩
  have B2 : Hid (Below w.heap.size w w2) := B1.out.trans (b2.mono B1.out.size)
  have H2 := Lib.hid (H1.out.bel b2)
  have CS := Lib.hid (small39 (cap := cap) n es (HA.out.below B2.out))
  clear b2 H1 B1 HW1 AW
  obtain ⟨y0, y1⟩ := H2.out.c
  go_wp2_with fail
  with_reducible refine CS.out.mono ?_
  rintro r w3 ⟨b, rfl, hb3, b3⟩
  have B3 : Hid (Below w.heap.size w w3) := B2.out.trans (b3.mono B2.out.size)
  have H3 := Lib.hid (H2.out.bel b3)
  have SM := Lib.hid hb3
  clear b3 hb3 y0 y1 H2 B2 CS
  obtain ⟨y0, y1⟩ := H3.out.c
  cases b with
  | false =>
    go_wp2_with fail
    go_ret
    exact ⟨rfl, B3.out⟩
  | true =>
    obtain ⟨m, v0, f0, hm⟩ := SM.out rfl
    obtain ⟨⟨rfl, h1, h30, h60, hok⟩, hs0, hz0⟩ := hm
    have HOK := Lib.hid hok
    have HEE : Hid (∀ e ∈ es.map REd.plain, K.OkE m e) := edges_ok hok
    clear SM hok hs0 hz0
    by_cases hl0 : es.length = 0
    · have h5 : ((es.length : Int) == 0) = true := beq_iff_eq.2 (by omega)
      go_wp2_with fail
      go_ret
      exact ⟨rfl, B3.out⟩
    have h5 : ((es.length : Int) == 0) = false := beq_eq_false_iff_ne.2 (by omega)
    obtain ⟨i, hrm⟩ : ∃ i : Nat, Int.tmod k (es.length : Int) = (i : Int) := ⟨(Int.tmod k (es.length : Int)).toNat, by rw [Int.toNat_of_nonneg (Int.tmod_nonneg _ hkb.1)]⟩
    have hil : i < es.length := by
      have := Int.tmod_lt_of_pos k (show (0 : Int) < (es.length : Int) by omega)
      rw [hrm] at this
      omega
    have hwk : IntKind.i64.wrap k = k := IntWalk.i64_in _ (by omega)
    have hwi : IntKind.i64.wrap (i : Int) = (i : Int) := IntWalk.i64_in _ (by omega)
    obtain ⟨e, he⟩ : ∃ e, es[i]? = some e := ⟨_, List.getElem?_eq_getElem hil⟩
    have hoke := HOK.out e (List.mem_of_getElem? he)
    have HKE := Lib.hid (And.intro he hoke)
    obtain ⟨eb, eo, rfl, _⟩ := HA.out.at_ i e he
    have hlen : 0 < es.length := by omega
    clear he hoke
    go_wp2_with fail
    clear hrm hwk hkb h5
    have APP : Hid (∀ (W : World) (b : Nat), Own W w3.heap.size 60 5 (some ⟨b, 0, none⟩) 0 encE ([] : List REd) → Below w3.heap.size w3 W → ∃ (g c1 : Nat) (w5 : World), (Builtin.append_ #[46, 46] 46 #[.slice (some ⟨b, 0, none⟩) 0 0, .slice (some ⟨eb, eo, none⟩) es.length cap]).run Try.prog W = .ok (.slice (some ⟨g, 0, none⟩) es.length c1) w5 ∧ Own w5 w3.heap.size 60 5 (some ⟨g, 0, none⟩) c1 encE es ∧ Below w3.heap.size W w5 ∧ Eff (fun k => k = b) W w5) := fun W b hO hW => by
      obtain ⟨A1, c1, W5, hap, hown, hb5, hef⟩ := append_any (c2 := cap) kindE hO hW.size (l2 := es) (sb := eb) (so := eo) (show RowIn _ (some ⟨eb, eo, none⟩) 5 encE es from (HA.out.below (B3.out.trans (hW.mono B3.out.size))).at_) (by show 0 + es.length ≤ _; omega)
      have hown : Own W5 w3.heap.size 60 5 A1 c1 encE es := hown
      have hap : (Builtin.append_ #[46, 46] 46 #[.slice (some ⟨b, 0, none⟩) 0 0, .slice (some ⟨eb, eo, none⟩) es.length cap]).run Try.prog W = .ok (.slice A1 (0 + es.length) c1) W5 := hap
      rw [Nat.zero_add] at hap
      obtain ⟨g, rfl, _⟩ := hown.at_ kindE hlen
      exact ⟨g, c1, W5, hap, hown, hb5, hef.mono (fun k hk => .inl (by cases hk; rfl))⟩
    have hbl : hb < w3.heap.size := (Array.getElem?_eq_some_iff.1 (show w3.heap[hb]? = _ from H3.out)).1
    refine che_r6 (fun _ _ _ _ _ h => h) hbl y0 y1 APP ?_
    rintro g c1 ub w6 ⟨b6, U6, O6, hg6⟩
    intro t31 t32 t33 t34 t35 t36 t37
    have B6 := B3.out.trans (b6.mono B3.out.size)
    have H6 := H3.out.bel b6
    obtain ⟨g', hgg, hg1, _, hfz6, hrow6⟩ := O6.at_ kindE hlen
    cases hgg
    have G6 : w6.cell? ⟨g, i * 5 + 2, none⟩ = some (.int .i64 e.cost) := hrow6 i e HKE.out.1 2 _ rfl
    have FZ6 : Hid (w6.frozen? ⟨g, i * 5 + 2, none⟩ = false) := hfz6 _
    have hco : 0 ≤ e.cost ∧ e.cost ≤ 1099511627776 := ⟨HKE.out.2.2.2.2.1, HKE.out.2.2.2.2.2.1⟩
    have hx : 0 ≤ Int.tdiv e.cost 2 ∧ Int.tdiv e.cost 2 ≤ e.cost := by
      rw [Int.tdiv_eq_ediv_of_nonneg hco.1]
      omega
    obtain ⟨W7, hW7⟩ : ∃ W, W = w6.drew.setCell ⟨g, i * 5 + 2, none⟩ (.int .i64 (Int.tdiv e.cost 2)) := ⟨_, rfl⟩
    have he7 : Eff (fun k => k = g) w6 W7 := by rw [hW7]; exact ((Eff.refl _ w6).drew).trans (eff_setCell _ g _ _) (fun _ h => .inl h)
    have O7 : Own W7 w3.heap.size 60 5 (some ⟨g, 0, none⟩) c1 encE (es.set i (costE e (Int.tdiv e.cost 2))) := by
      rw [hW7]
      exact own_setE (show Own w6.drew w3.heap.size 60 5 (some ⟨g, 0, none⟩) c1 encE es from O6) HKE.out.1 _
    obtain ⟨_, cg, hcg⟩ := O6.blk rfl
    have hH6 : w6.heap[hb]? = _ := H6
    have hU6 : w6.heap[ub]? = _ := U6
    have U7 : HBZ W7 ub m es.length c1 (some ⟨g, 0, none⟩) := he7.heap U6 (ne_of_type hU6 hcg (by decide))
    have H7 : HBZ W7 hb m es.length cap (some ⟨eb, eo, none⟩) := he7.heap H6 (ne_of_type hH6 hcg (by decide))
    have B7 : Hid (Below w.heap.size w W7) := B6.trans (he7.belowB B6.size (fun k hk => by rw [hk]; exact Nat.le_trans B3.out.size hg1))
    obtain ⟨es', hes'⟩ : ∃ l, l = es.set i (costE e (Int.tdiv e.cost 2)) := ⟨_, rfl⟩
    have hl' : es'.length = es.length := by rw [hes']; exact List.length_set
    have HOK' : Hid (∀ a ∈ es', a.ok m) := by rw [hes']; exact ok_set HOK.out HKE.out.2 hx.1 (by omega)
    have HSH : Hid (∀ a ∈ es.map REd.plain, ∃ a' ∈ es'.map REd.plain, a'.head = a.head ∧ a'.tails = a.tails ∧ a'.cost ≤ a.cost) := by rw [hes']; exact cheaper_shape HKE.out.1 hx.2
    rw [← hes'] at O7
    have HT' : Hid (∀ W : World, Below W7.heap.size W7 W → EdsIn W (some ⟨g, 0, none⟩) es') := fun W hW => eds_of ((O7.bel hW).row kindE) (fun a ha => by
      have hb' : Below w.heap.size w W := B7.out.trans (hW.mono B7.out.size)
      rw [hes'] at ha
      rcases List.mem_or_eq_of_mem_set ha with ha | rfl
      · exact (HA.out.below hb').tails a ha
      · exact (HA.out.below hb').tails e (List.mem_of_getElem? HKE.out.1))
    have HU7 := Lib.hid U7
    have HH7 := Lib.hid H7
    have u1 := U6.c.2
    have hiz : (i : Int) < (es.length : Int) := by omega
    have hw2 : IntKind.i64.wrap (Int.tdiv e.cost 2) = Int.tdiv e.cost 2 := IntWalk.i64_in _ (by omega)
    have HLN := Lib.hid hl'
    have HW7 := Lib.hid hW7
    have CS := Lib.hid (small39 (cap := c1) m es' (HT'.out W7 (Below.refl _ _)))
    rw [hl'] at CS
    clear APP b6 U6 O6 B6 H6 hrow6 hfz6 hco hx hW7 he7 O7 hcg hH6 hU6 U7 H7 hes' hl' y0 y1 hg6 hg1
    go_wp2_with fail
    refine che_r7 (fun _ _ _ _ _ h => h) hiz hw2 u1 G6 FZ6 ?_
    intro t38 t39 t40 t41 t42 t43 t44 t45 t46 t47 t48 t49
    rw [← HW7.out]
    clear u1 G6 FZ6 hw2 HW7
    obtain ⟨y0, y1⟩ := HH7.out.c
    obtain ⟨x0, x1⟩ := HU7.out.c
    go_wp2_with fail
    with_reducible refine CS.out.mono ?_
    rintro r w8 ⟨b, rfl, _, b8⟩
    have B8 : Hid (Below w.heap.size w w8) := B7.out.trans (b8.mono B7.out.size)
    have H8 := Lib.hid (HH7.out.bel b8)
    have U8 := Lib.hid (HU7.out.bel b8)
    have T8 : Hid (∀ W : World, Below w8.heap.size w8 W → EdsIn W (some ⟨g, 0, none⟩) es') := fun W hW => HT'.out W (b8.trans (hW.mono b8.size))
    clear b8 y0 y1 x0 x1 HH7 HU7 HT' CS B7 B3 H3
    cases b with
    | false =>
      go_wp2_with fail
      go_ret
      exact ⟨rfl, B8.out⟩
    | true =>
      go_wp2_with fail
      have C5 : Hid (∀ W : World, Below w8.heap.size w8 W → Calls Try.prog 40 #[.agg #[.int .i64 m, .slice (some ⟨eb, eo, none⟩) es.length cap], .int .i64 root] W (SPost 3 m (RowQ (es.map REd.plain) m root fOut) W)) := fun W hW => (outside40 root (HA.out.below (B8.out.trans (hW.mono B8.out.size))) HOK.out h30 h60).mono (fun _ _ h => RPost.s h)
      have C6 : Hid (∀ W : World, Below w8.heap.size w8 W → Calls Try.prog 40 #[.agg #[.int .i64 m, .slice (some ⟨g, 0, none⟩) es.length c1], .int .i64 root] W (SPost 3 m (RowQ (es'.map REd.plain) m root fOut) W)) := fun W hW => by
        have := (outside40 (cap := c1) root (T8.out W hW) HOK'.out h30 (by rw [HLN.out]; exact h60)).mono (fun _ _ h => RPost.s h)
        rw [HLN.out] at this
        exact this
      have C7 : Hid (∀ W : World, Below w8.heap.size w8 W → Calls Try.prog 45 #[.agg #[.int .i64 m, .slice (some ⟨eb, eo, none⟩) es.length cap], .int .i64 root] W (SPost 3 m (RowQ (es.map REd.plain) m root fThr) W)) := fun W hW => (through45 root (HA.out.below (B8.out.trans (hW.mono B8.out.size))) HOK.out h30 h60).mono (fun _ _ h => RPost.s h)
      have C8 : Hid (∀ W : World, Below w8.heap.size w8 W → Calls Try.prog 45 #[.agg #[.int .i64 m, .slice (some ⟨g, 0, none⟩) es.length c1], .int .i64 root] W (SPost 3 m (RowQ (es'.map REd.plain) m root fThr) W)) := fun W hW => by
        have := (through45 (cap := c1) root (T8.out W hW) HOK'.out h30 (by rw [HLN.out]; exact h60)).mono (fun _ _ h => RPost.s h)
        rw [HLN.out] at this
        exact this
      refine che_r10 (fun _ _ _ _ _ h => h) (hbR H8.out) (hbR U8.out) C5 C6 ?_
      intro b5 b6 g5 g6 w9 hQ b9 t53 t54 t55 t56 t57 t58
      have B9 : Hid (Below w.heap.size w w9) := B8.out.trans (b9.mono B8.out.size)
      have H9 := Lib.hid (H8.out.bel b9)
      have U9 := Lib.hid (U8.out.bel b9)
      have Q9 := Lib.hid hQ
      have C7 : Hid (∀ W : World, Below w9.heap.size w9 W → Calls Try.prog 45 #[.agg #[.int .i64 m, .slice (some ⟨eb, eo, none⟩) es.length cap], .int .i64 root] W (SPost 3 m (RowQ (es.map REd.plain) m root fThr) W)) := fun W hW => C7.out W (b9.trans (hW.mono b9.size))
      have C8 : Hid (∀ W : World, Below w9.heap.size w9 W → Calls Try.prog 45 #[.agg #[.int .i64 m, .slice (some ⟨g, 0, none⟩) es.length c1], .int .i64 root] W (SPost 3 m (RowQ (es'.map REd.plain) m root fThr) W)) := fun W hW => C8.out W (b9.trans (hW.mono b9.size))
      clear hQ b9 C5 C6 H8 U8 B8 T8
      go_wp2_with fail
      refine che_r11 (fun _ _ _ _ _ h => h) (hbR H9.out) (hbR U9.out) C7 C8 ?_
      intro b7 b8 g7 g8 wA hQ bA t59 t60 t61 t62 t63 t64
      obtain ⟨p1, q1, e1, e2, hpq1⟩ := rowQ_cheaper HEE.out HSH.out fOut_mono Q9.out.1.1 Q9.out.2.1
      obtain ⟨p2, q2, e3, e4, hpq2⟩ := rowQ_cheaper HEE.out HSH.out fThr_mono hQ.1.1 hQ.2.1
      have HI : Hid ((Below w.heap.size w wA ∧ HBZ wA hb m es.length cap (some ⟨eb, eo, none⟩)) ∧ (wA.rowIs b5 3 m (intRow p1) ∧ wA.rowIs b6 3 m (intRow q1)) ∧ (wA.rowIs b7 3 m (intRow p2) ∧ wA.rowIs b8 3 m (intRow q2))) :=
        ⟨⟨B9.out.trans (bA.mono B9.out.size), H9.out.bel bA⟩, ⟨by rw [← e1]; exact row_below Q9.out.1.2 bA, by rw [← e2]; exact row_below Q9.out.2.2 bA⟩, by rw [← e3]; exact hQ.1.2, by rw [← e4]; exact hQ.2.2⟩
      have HLE := Lib.hid (And.intro hpq1 hpq2)
      clear hQ bA C7 C8 e1 e2 e3 e4 hpq1 hpq2 H9 U9 B9 Q9
      obtain ⟨y0, y1⟩ := HI.out.1.2.c
      go_wp2_with fail
      clear y0 y1
      go_loopg [13] m (fun gk s13 wr => ∃ i : Nat, s13 = .int .i64 i ∧ i ≤ m ∧ m - i ≤ gk ∧ Hid ((Below w.heap.size w wr ∧ HBZ wr hb m es.length cap (some ⟨eb, eo, none⟩)) ∧ (wr.rowIs b5 3 m (intRow p1) ∧ wr.rowIs b6 3 m (intRow q1)) ∧ (wr.rowIs b7 3 m (intRow p2) ∧ wr.rowIs b8 3 m (intRow q2))))
      case atStart => exact ⟨0, rfl, by omega, by omega, HI.out⟩
      case round =>
        clear HI
        obtain ⟨j, rfl, hi, hk, HR⟩ := hrel
        obtain ⟨y0, y1⟩ := HR.out.1.2.c
        by_cases hlt : j < m
        · have hlz : (j : Int) < (m : Int) := by omega
          obtain ⟨a1, ha1⟩ : ∃ x, p1 j = x := ⟨_, rfl⟩
          obtain ⟨a2, ha2⟩ : ∃ x, q1 j = x := ⟨_, rfl⟩
          obtain ⟨a3, ha3⟩ : ∃ x, p2 j = x := ⟨_, rfl⟩
          obtain ⟨a4, ha4⟩ : ∃ x, q2 j = x := ⟨_, rfl⟩
          have x1 : wr.cell? ⟨b5, j, none⟩ = some (.int .i64 a1) := by rw [← ha1]; exact HR.out.2.1.1.cell hlt
          have x2 : wr.cell? ⟨b6, j, none⟩ = some (.int .i64 a2) := by rw [← ha2]; exact HR.out.2.1.2.cell hlt
          have x3 : wr.cell? ⟨b7, j, none⟩ = some (.int .i64 a3) := by rw [← ha3]; exact HR.out.2.2.1.cell hlt
          have x4 : wr.cell? ⟨b8, j, none⟩ = some (.int .i64 a4) := by rw [← ha4]; exact HR.out.2.2.2.cell hlt
          have l1 := HLE.out.1 j hlt
          have l2 := HLE.out.2 j hlt
          rw [ha1, ha2] at l1
          rw [ha3, ha4] at l2
          have g1 : decide (a1 < a2) = false := decide_eq_false (by omega)
          have g2 : decide (a3 < a4) = false := decide_eq_false (by omega)
          clear ha1 ha2 ha3 ha4 l1 l2
          go_wp2_with fail
          have hlz : (j : Int) < (m : Int) := by omega
          go_quiet (fail)
          go_wp2_with fail
          go_roundg (m - (j + 1))
          case measure => omega
          case rel =>
            have hd := below_drewN (Below.refl wr.heap.size wr) nq
            exact ⟨j + 1, by go_num, by omega, by omega, ⟨HR.out.1.1.trans (hd.mono HR.out.1.1.size), HR.out.1.2.bel hd⟩, ⟨row_below HR.out.2.1.1 hd, row_below HR.out.2.1.2 hd⟩, row_below HR.out.2.2.1 hd, row_below HR.out.2.2.2 hd⟩
        · have hlz : ¬ (j : Int) < (m : Int) := by omega
          obtain rfl : m = j := by omega
          go_wp2_with fail
          go_ret
          exact ⟨rfl, HR.out.1.1⟩
end Go.Proofs.Ytepfbhigeghjjaa.Q
