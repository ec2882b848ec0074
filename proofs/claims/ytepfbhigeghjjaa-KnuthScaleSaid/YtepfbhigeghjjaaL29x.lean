/- KnuthScale: the walk. -/
import Derived.OpenShut
import Derived.Test.YtepfbhigeghjjaaKPc
import Derived.Test.YtepfbhigeghjjaaQR
namespace Go.Proofs.Ytepfbhigeghjjaa.Q
open Go.RowKit Go.Proofs.YtepfbhigeghjjaaW.PrintLast
set_option linter.unusedVariables false
set_option linter.unusedSimpArgs false
set_option maxHeartbeats 2000000 in
set_option maxRecDepth 100000 in
theorem sca_r22 {ub g len c i : Nat} {cost k : Int} {Q : Exit → Act → World → Prop} (hp : ∀ c (a : Act) (i : Nat) (v : Value) w, Q (.panic c) (a.put (some i) v) w → Q (.panic c) a w)
    {u0 u1 u2 u3 u4 u6 u7 u8 u9 u12 u13 u14 u15 u16 u17 u18 u19 u20 u21 u22 u23 u24 u25 u26 u27 u28 u29 u30 u31 u32 u33 u34 u35 u36 u37 u38 u39 u40 u41 u42 u43 u44 u45 u46 u47 u48 u49 u50 u51 u52 u53 u54 u55 u56 u57 u58 u59 u60 u61 u62 u63 u64 u65 u66 u67 u68 u69 u70 u71 u72 u73 u74 u75 u76 u77 u78 u79 u80 u81 u82 u83 u84 u85 u86 u87 u88 u89 u90 u91 u92 u93 u94 u95 u96 u97 u98 u99 u100 u101 u102 u103 u104 u105 u106 u107 u108 u109 u110 u111 u112 u113 u114 u115 u116 u117 u118 u119 u120 u121 u122 u123 u124 u125 u126 u127 u128 u129 u130 u131 u132 u133 u134 u135 u136 u137 u138 u139 u140 u141 u142 u143 u144 u145 : Value} {wr : World} (hlz : (i : Int) < (len : Int)) (hw : IntKind.i64.wrap (k * cost) = k * cost) (U1 : wr.cell? ⟨ub, 1, none⟩ = some (.slice (some ⟨g, 0, none⟩) len c)) (G1 : wr.cell? ⟨g, i * 5 + 2, none⟩ = some (.int .i64 cost)) (FZ : Hid (wr.frozen? ⟨g, i * 5 + 2, none⟩ = false))
    (hQ : ∀ (t92 t93 t94 t95 t96 t97 t98 t99 t100 t101 t102 t103 t104 : Value), Q .normal { tmps := #[u0, u1, u2, u3, u4, .int .i64 k, u6, u7, u8, u9, .pointer (some ⟨ub, 0, none⟩), .int .i64 i, u12, u13, u14, u15, u16, u17, u18, u19, u20, u21, u22, u23, u24, u25, u26, u27, u28, u29, u30, u31, u32, u33, u34, u35, u36, u37, u38, u39, u40, u41, u42, u43, u44, u45, u46, u47, u48, u49, u50, u51, u52, u53, u54, u55, u56, u57, u58, u59, u60, u61, u62, u63, u64, u65, u66, u67, u68, u69, u70, u71, u72, u73, u74, u75, u76, u77, u78, u79, u80, u81, u82, u83, u84, u85, u86, u87, u88, u89, u90, u91, t92, t93, t94, t95, t96, t97, t98, t99, t100, t101, t102, t103, t104, u105, u106, u107, u108, u109, u110, u111, u112, u113, u114, u115, u116, u117, u118, u119, u120, u121, u122, u123, u124, u125, u126, u127, u128, u129, u130, u131, u132, u133, u134, u135, u136, u137, u138, u139, u140, u141, u142, u143, u144, u145], defers := [] } (wr.drew.setCell ⟨g, i * 5 + 2, none⟩ (.int .i64 (k * cost)))) :
    Code.wp Try.prog (reg (Try.f18) 22) Q { tmps := #[u0, u1, u2, u3, u4, .int .i64 k, u6, u7, u8, u9, .pointer (some ⟨ub, 0, none⟩), .int .i64 i, u12, u13, u14, u15, u16, u17, u18, u19, u20, u21, u22, u23, u24, u25, u26, u27, u28, u29, u30, u31, u32, u33, u34, u35, u36, u37, u38, u39, u40, u41, u42, u43, u44, u45, u46, u47, u48, u49, u50, u51, u52, u53, u54, u55, u56, u57, u58, u59, u60, u61, u62, u63, u64, u65, u66, u67, u68, u69, u70, u71, u72, u73, u74, u75, u76, u77, u78, u79, u80, u81, u82, u83, u84, u85, u86, u87, u88, u89, u90, u91, u92, u93, u94, u95, u96, u97, u98, u99, u100, u101, u102, u103, u104, u105, u106, u107, u108, u109, u110, u111, u112, u113, u114, u115, u116, u117, u118, u119, u120, u121, u122, u123, u124, u125, u126, u127, u128, u129, u130, u131, u132, u133, u134, u135, u136, u137, u138, u139, u140, u141, u142, u143, u144, u145], defers := [] } wr := by
  have HQ := Lib.hid hQ
  have HP := Lib.hid hp
  clear hQ hp
  refine start_ (n := 14) (S := fun w' => w'.cell? ⟨ub, 1, none⟩ = some (.slice (some ⟨g, 0, none⟩) len c) ∧ w'.cell? ⟨g, i * 5 + 2, none⟩ = some (.int .i64 cost)) (ds := [13]) #[false, false, false, false, false, false, false, false, false, false, false, false, false, false] (by kernel_rfl) rfl rfl ⟨U1, G1⟩ (fun hHeld => ?_)
  refine pure_ (i := 0) (N := some 92) (v := ?_) (a' := ?_) #[true, false, false, false, false, false, false, false, false, false, false, false, false, false] rfl rfl (by kernel_rfl) (fun c a w h => HP.out c a _ _ w h) (Or.inl ⟨by rfl, ?_⟩) ?_ ?_
  rotate_left
  · intro w'
    go_simp
    with_reducible rfl
  rotate_left
  · simp only [Act.put, List.setIfInBounds_toArray, List.set_cons_zero, List.set_cons_succ, i64_w, i32_w]
    rfl
  refine pure_ (i := 2) (N := some 94) (v := ?_) (a' := ?_) #[true, false, true, false, false, false, false, false, false, false, false, false, false, false] rfl rfl (by kernel_rfl) (fun c a w h => HP.out c a _ _ w h) (Or.inl ⟨by rfl, ?_⟩) ?_ ?_
  rotate_left
  · intro w'
    go_simp
    with_reducible rfl
  rotate_left
  · simp only [Act.put, List.setIfInBounds_toArray, List.set_cons_zero, List.set_cons_succ, i64_w, i32_w]
    rfl
  refine pure_ (i := 3) (N := some 95) (v := ?_) (a' := ?_) #[true, false, true, true, false, false, false, false, false, false, false, false, false, false] rfl rfl (by kernel_rfl) (fun c a w h => HP.out c a _ _ w h) (Or.inl ⟨by rfl, ?_⟩) ?_ ?_
  rotate_left
  · intro w'
    go_simp
    with_reducible rfl
  rotate_left
  · simp only [Act.put, List.setIfInBounds_toArray, List.set_cons_zero, List.set_cons_succ, i64_w, i32_w]
    rfl
  refine pure_ (i := 4) (N := some 96) (v := ?_) (a' := ?_) #[true, false, true, true, true, false, false, false, false, false, false, false, false, false] rfl rfl (by kernel_rfl) (fun c a w h => HP.out c a _ _ w h) (Or.inl ⟨by rfl, ?_⟩) ?_ ?_
  rotate_left
  · intro w'
    go_simp
    with_reducible rfl
  rotate_left
  · simp only [Act.put, List.setIfInBounds_toArray, List.set_cons_zero, List.set_cons_succ, i64_w, i32_w]
    rfl
  refine pure_ (i := 6) (N := some 98) (v := ?_) (a' := ?_) #[true, false, true, true, true, false, true, false, false, false, false, false, false, false] rfl rfl (by kernel_rfl) (fun c a w h => HP.out c a _ _ w h) (Or.inl ⟨by rfl, ?_⟩) ?_ ?_
  rotate_left
  · intro w'
    go_simp
    with_reducible rfl
  rotate_left
  · simp only [Act.put, List.setIfInBounds_toArray, List.set_cons_zero, List.set_cons_succ, i64_w, i32_w]
    rfl
  refine take_ (i := 1) (N := some 93) (v := ?_) (a' := ?_) #[true, true, true, true, true, false, true, false, false, false, false, false, false, false] rfl rfl (by kernel_rfl) (fun c a w h => HP.out c a _ _ w h) (Or.inl ⟨by rfl, ?_⟩) hHeld ?_ ?_
  rotate_left
  · rintro w' ⟨s0, s1⟩
    go_simp
    with_reducible rfl
  rotate_left
  · simp only [Act.put, List.setIfInBounds_toArray, List.set_cons_zero, List.set_cons_succ, i64_w, i32_w]
    rfl
  refine take_ (i := 5) (N := some 97) (v := ?_) (a' := ?_) #[true, true, true, true, true, true, true, false, false, false, false, false, false, false] rfl rfl (by kernel_rfl) (fun c a w h => HP.out c a _ _ w h) (Or.inl ⟨by rfl, ?_⟩) hHeld ?_ ?_
  rotate_left
  · rintro w' ⟨s0, s1⟩
    go_simp
    with_reducible rfl
  rotate_left
  · simp only [Act.put, List.setIfInBounds_toArray, List.set_cons_zero, List.set_cons_succ, i64_w, i32_w]
    rfl
  refine pure_ (i := 7) (N := some 99) (v := ?_) (a' := ?_) #[true, true, true, true, true, true, true, true, false, false, false, false, false, false] rfl rfl (by kernel_rfl) (fun c a w h => HP.out c a _ _ w h) (Or.inl ⟨by rfl, ?_⟩) ?_ ?_
  rotate_left
  · intro w'
    go_simp
    with_reducible rfl
  rotate_left
  · simp only [Act.put, List.setIfInBounds_toArray, List.set_cons_zero, List.set_cons_succ, i64_w, i32_w]
    rfl
  refine pure_ (i := 8) (N := some 100) (v := ?_) (a' := ?_) #[true, true, true, true, true, true, true, true, true, false, false, false, false, false] rfl rfl (by kernel_rfl) (fun c a w h => HP.out c a _ _ w h) (Or.inl ⟨by rfl, ?_⟩) ?_ ?_
  rotate_left
  · intro w'
    go_simp
    with_reducible rfl
  rotate_left
  · simp only [Act.put, List.setIfInBounds_toArray, List.set_cons_zero, List.set_cons_succ, i64_w, i32_w]
    rfl
  refine take_ (i := 9) (N := some 101) (v := ?_) (a' := ?_) #[true, true, true, true, true, true, true, true, true, true, false, false, false, false] rfl rfl (by kernel_rfl) (fun c a w h => HP.out c a _ _ w h) (Or.inl ⟨by rfl, ?_⟩) hHeld ?_ ?_
  rotate_left
  · rintro w' ⟨s0, s1⟩
    go_simp
    with_reducible rfl
  rotate_left
  · simp only [Act.put, List.setIfInBounds_toArray, List.set_cons_zero, List.set_cons_succ, i64_w, i32_w]
    rfl
  refine pure_ (i := 10) (N := some 102) (v := ?_) (a' := ?_) #[true, true, true, true, true, true, true, true, true, true, true, false, false, false] rfl rfl (by kernel_rfl) (fun c a w h => HP.out c a _ _ w h) (Or.inl ⟨by rfl, ?_⟩) ?_ ?_
  rotate_left
  · intro w'
    go_simp
    with_reducible rfl
  rotate_left
  · simp only [Act.put, List.setIfInBounds_toArray, List.set_cons_zero, List.set_cons_succ, i64_w, i32_w]
    rfl
  refine pure_ (i := 11) (N := some 103) (v := ?_) (a' := ?_) #[true, true, true, true, true, true, true, true, true, true, true, true, false, false] rfl rfl (by kernel_rfl) (fun c a w h => HP.out c a _ _ w h) (Or.inl ⟨by rfl, ?_⟩) ?_ ?_
  rotate_left
  · intro w'
    go_simp
    with_reducible rfl
  rotate_left
  · simp only [Act.put, List.setIfInBounds_toArray, List.set_cons_zero, List.set_cons_succ, i64_w, i32_w]
    rfl
  refine pure_ (i := 12) (N := some 104) (v := ?_) (a' := ?_) #[true, true, true, true, true, true, true, true, true, true, true, true, true, false] rfl rfl (by kernel_rfl) (fun c a w h => HP.out c a _ _ w h) (Or.inl ⟨by rfl, ?_⟩) ?_ ?_
  rotate_left
  · intro w'
    go_simp
    with_reducible rfl
  rotate_left
  · simp only [Act.put, List.setIfInBounds_toArray, List.set_cons_zero, List.set_cons_succ, i64_w, i32_w]
    rfl
  refine last_ (i := 13) (N := none) #[true, true, true, true, true, true, true, true, true, true, true, true, true, true] rfl rfl (by kernel_rfl) (by decide) (fun K hK => ?_)
  refine skip_ (w1 := wr.drew.setCell ⟨g, i * 5 + 2, none⟩ (.int .i64 (k * cost))) (by rfl) rfl (run_u (run_storeAt_one (w := wr.drew) (by kernel_rfl) rfl (o := .int .i64 cost) hHeld.2 FZ.out)) ?_
  refine hK.out _ _ ?_
  clear hK K
  refine done_ (by kernel_rfl) ?_
  exact HQ.out _ _ _ _ _ _ _ _ _ _ _ _ _

theorem mul_bound {k x b : Int} (h0 : 0 ≤ x) (hb : x ≤ b) (hk0 : 0 ≤ k) (hk : k ≤ 255) : 0 ≤ k * x ∧ k * x ≤ 255 * b := by
  refine ⟨Int.mul_nonneg hk0 h0, ?_⟩
  have h1 := Int.mul_le_mul_of_nonneg_right hk h0
  have h2 := Int.mul_le_mul_of_nonneg_left hb (show (0 : Int) ≤ 255 by decide)
  omega
theorem scV_pair (k q1 q2 : Int) : K.scV k (q1, q2) = (if q1 < 1099511627776 then k * q1 else q1, q2) := by
  show (if q1 < K.INF then (k * q1, q2) else (q1, q2)) = _
  by_cases h : q1 < 1099511627776
  · rw [if_pos (show q1 < K.INF from h), if_pos h]
  · rw [if_neg (show ¬ q1 < K.INF from h), if_neg h]
def CostTo (es : List REd) (i : Nat) : Prop := ∀ (j : Nat) e, j < i → es[j]? = some e → e.cost ≤ 1000
def FinTo (v : Nat → K.V) (i : Nat) : Prop := ∀ j, j < i → (v j).1 < 1099511627776 → (v j).1 < 4294967296
/-- The first i costs are multiplied. -/
def ScTo (k : Int) (es : List REd) (i : Nat) (l : List REd) : Prop := l.length = es.length ∧ ∀ (j : Nat) e, es[j]? = some e → l[j]? = some (if j < i then costE e (k * e.cost) else e)
theorem ScTo.next {k : Int} {es l : List REd} {i : Nat} {e : REd} (h : ScTo k es i l) (he : es[i]? = some e) : l[i]? = some e ∧ ScTo k es (i + 1) (l.set i (costE e (k * e.cost))) := by
  have h0 := h.2 i e he
  rw [if_neg (Nat.lt_irrefl _)] at h0
  refine ⟨h0, by rw [List.length_set]; exact h.1, fun j e' he' => ?_⟩
  have hil := (List.getElem?_eq_some_iff.1 h0).1
  by_cases hji : j = i
  · subst hji
    rw [he] at he'
    cases he'
    rw [List.getElem?_set_self hil, if_pos (Nat.lt_succ_self _)]
  · rw [List.getElem?_set_ne (fun h => hji h.symm), h.2 j e' he']
    by_cases hj : j < i
    · rw [if_pos hj, if_pos (by omega)]
    · rw [if_neg hj, if_neg (by omega)]
theorem ScTo.all {k : Int} {es l : List REd} (h : ScTo k es es.length l) : l = es.map (fun e => costE e (k * e.cost)) := by
  refine List.ext_getElem? (fun j => ?_)
  rw [List.getElem?_map]
  cases he : es[j]? with
  | none => rw [List.getElem?_eq_none (by rw [h.1]; exact List.getElem?_eq_none_iff.1 he)]; rfl
  | some e => rw [h.2 j e he, if_pos (List.getElem?_eq_some_iff.1 he).1]; rfl
set_option maxHeartbeats 8000000 in
set_option maxRecDepth 100000 in
theorem scale_walk (n : Int) (A : Option Addr) (cap : Nat) (es : List REd) (k : Int) (w : World) (hA : EdsIn w A es) (hk8 : (Lit.int .u8 k).wf = true) : Calls Try.prog 18 #[.agg #[.int .i64 n, .slice A es.length cap], .int .u8 k] w (TruePost w) := by
  have AW := Lib.hid awake44
  have HA := Lib.hid hA
  have hkb := bounds_u8 hk8
  clear hk8
  clear hA
  obtain ⟨W1, hW1⟩ : ∃ W, W = w.alloc (.cells #[.int .i64 n, .slice A es.length cap] 48) := ⟨_, rfl⟩
  obtain ⟨hb, hhb⟩ : ∃ b, b = w.heap.size := ⟨_, rfl⟩
  have B1 : Hid (Below w.heap.size w W1) := by rw [hW1]; exact (Below.refl _ _).alloc (Nat.le_refl _) _
  have H1 : Hid (HBZ W1 hb n es.length cap A) := by show W1.heap[hb]? = _; rw [hW1, hhb]; exact heap_alloc_new w _
  have HW1 := Lib.hid (And.intro hW1 hhb)
  have CS := Lib.hid (bounded49 (cap := cap) n es (HA.out.below B1.out))
  clear hW1 hhb
  go_enter Try.func18, Try.ntmps18
  go_wp2_with fail
  rw [← HW1.out.1, ← HW1.out.2]
  with_reducible refine CS.out.mono ?_
  rintro r w2 ⟨b, rfl, hb2, b2⟩
  have B2 : Hid (Below w.heap.size w w2) := B1.out.trans (b2.mono B1.out.size)
  have H2 := Lib.hid (H1.out.bel b2)
  have SM := Lib.hid hb2
  clear b2 hb2 H1 B1 HW1 CS
  cases b with
  | false =>
    go_wp2_with fail
    with_reducible refine (AW.out _).mono ?_
    rintro r w3 ⟨rfl, b3⟩
    have B3 : Hid (Below w.heap.size w w3) := B2.out.trans (b3.mono B2.out.size)
    clear b3
    go_wp2_with fail
    go_ret
    exact ⟨rfl, B3.out⟩
  | true =>
    obtain ⟨m, v0, f0, hm⟩ := SM.out rfl
    obtain ⟨⟨rfl, h1, h30, h60, hok⟩, hs0, hz0⟩ := hm
    have HOK := Lib.hid hok
    have HEE : Hid (∀ e ∈ es.map REd.plain, K.OkE m e) := edges_ok hok
    obtain ⟨y0, y1⟩ := H2.out.c
    by_cases hk0 : k = 0
    · have h5 : (k == 0) = true := beq_iff_eq.2 hk0
      clear hs0 hz0 hok SM hk0
      go_wp2_with fail
      with_reducible refine (AW.out _).mono ?_
      rintro r w9 ⟨rfl, b9⟩
      have B9 : Hid (Below w.heap.size w w9) := (B2.out).trans (b9.mono (B2.out).size)
      clear b9
      go_wp2_with fail
      go_ret
      exact ⟨rfl, B9.out⟩
    have h5 : (k == 0) = false := beq_eq_false_iff_ne.2 hk0
    have hwk : IntKind.i64.wrap k = k := IntWalk.i64_in _ (by omega)
    have HKB : Hid (1 ≤ k ∧ k ≤ 255) := ⟨by omega, by omega⟩
    have HOK' := Lib.hid hok
    have HZ0 := Lib.hid (And.intro hs0 hz0)
    clear hs0 hz0 hok SM hk0
    go_wp2_with fail
    clear h5 hwk hkb y0 y1
    go_loopg [6] es.length (fun gk s6 wr => ∃ i : Nat, s6 = .int .i64 i ∧ i ≤ es.length ∧ es.length - i ≤ gk ∧ Hid (Below w.heap.size w wr ∧ HBZ wr hb m es.length cap A ∧ CostTo es i))
    case atStart => exact ⟨0, rfl, by omega, by omega, B2.out, H2.out, fun j _ h => absurd h (Nat.not_lt_zero j)⟩
    case round =>
      clear B2 H2
      obtain ⟨i, rfl, hi, hk, HR⟩ := hrel
      obtain ⟨y0, y1⟩ := HR.out.2.1.c
      by_cases hlt : i < es.length
      · have hlz : (i : Int) < (es.length : Int) := by omega
        obtain ⟨e, he⟩ : ∃ e, es[i]? = some e := ⟨_, List.getElem?_eq_getElem hlt⟩
        obtain ⟨b, o, rfl, z0, z1, z2, z3, z4⟩ := HA.out.c HR.out.1 he
        have HE := Lib.hid he
        clear he
        by_cases g1 : 1000 < e.cost
        · skip
          go_wp2_with fail
          with_reducible refine (AW.out _).mono ?_
          rintro r w9 ⟨rfl, b9⟩
          have B9 : Hid (Below w.heap.size w w9) := (HR.out.1).trans (b9.mono (HR.out.1).size)
          clear b9
          go_wp2_with fail
          go_ret
          exact ⟨rfl, B9.out⟩
        have HG : Hid (e.cost ≤ 1000) := by show _ ≤ _; omega
        go_wp2_with fail
        go_roundg (es.length - (i + 1))
        case measure => omega
        case rel => exact ⟨i + 1, by go_num, by omega, by omega, HR.out.1, HR.out.2.1, fun j e' hj he' => by
          by_cases hji : j = i
          · subst hji
            rw [HE.out] at he'
            cases he'
            exact HG.out
          · exact HR.out.2.2 j e' (by omega) he'⟩
      · have hlz : ¬ (i : Int) < (es.length : Int) := by omega
        obtain rfl : es.length = i := by omega
        have HCO : Hid (∀ e ∈ es, e.cost ≤ 1000) := fun e he => by
          obtain ⟨j, hj⟩ := List.getElem?_of_mem he
          exact HR.out.2.2 j e (List.getElem?_eq_some_iff.1 hj).1 hj
        have B2 : Hid (Below w.heap.size w wr) := HR.out.1
        have H2 : Hid (HBZ wr hb m es.length cap A) := HR.out.2.1
        obtain ⟨w2, hw2⟩ : ∃ w2, w2 = wr := ⟨_, rfl⟩
        have C50 := Lib.hid (solve50 (ecap := cap) (HA.out.below B2.out) HOK.out (by omega) (by omega))
        clear HR hi hk hlt hw2
        go_wp2_with fail
        with_reducible refine C50.out.mono ?_
        rintro r w3 ⟨bv, be, v, f, rfl, hs, hv, hf, b3, _, _⟩
        have V3 : Hid (VSt w w3 hb m es.length cap A bv be v f) := ⟨B2.out.trans (b3.mono B2.out.size), H2.out.bel b3, hv, hf⟩
        have HS := Lib.hid hs
        clear b3 hv hs hf y0 y1 C50 H2 B2 hlz
        obtain ⟨y0, y1⟩ := V3.out.hdr.c
        go_wp2_with fail
        clear y0 y1
        go_loopg [9] m (fun gk s9 wr => ∃ i : Nat, s9 = .int .i64 i ∧ i ≤ m ∧ m - i ≤ gk ∧ Hid (VSt w wr hb m es.length cap A bv be v f ∧ FinTo v i))
        case atStart => exact ⟨0, rfl, by omega, by omega, V3.out, fun j h => absurd h (Nat.not_lt_zero j)⟩
        case round =>
          clear V3
          obtain ⟨i, rfl, hi, hk, HR⟩ := hrel
          obtain ⟨y0, y1⟩ := HR.out.1.hdr.c
          by_cases hlt : i < m
          · have hlz : (i : Int) < (m : Int) := by omega
            obtain ⟨q1, hq1⟩ : ∃ x, (v i).1 = x := ⟨_, rfl⟩
            obtain ⟨x1, x2⟩ := HR.out.1.v1 hlt (a := q1) (b := (v i).2) (by rw [← hq1])
            have HQ := Lib.hid hq1
            clear hq1 x2
            by_cases g1 : q1 < 1099511627776
            · by_cases g2 : 4294967296 ≤ q1
              · skip
                go_wp2_with fail
                with_reducible refine (AW.out _).mono ?_
                rintro r w9 ⟨rfl, b9⟩
                have B9 : Hid (Below w.heap.size w w9) := (HR.out.1.below).trans (b9.mono (HR.out.1.below).size)
                clear b9
                go_wp2_with fail
                go_ret
                exact ⟨rfl, B9.out⟩
              have HG : Hid (q1 < 4294967296) := by show _ < _; omega
              go_wp2_with fail
              go_roundg (m - (i + 1))
              case measure => omega
              case rel => exact ⟨i + 1, by go_num, by omega, by omega, HR.out.1, fun j hj hf => by
                by_cases hji : j = i
                · rw [hji, HQ.out]; exact HG.out
                · exact HR.out.2 j (by omega) hf⟩
            · have HG : Hid (¬ q1 < 1099511627776) := g1
              go_wp2_with fail
              go_roundg (m - (i + 1))
              case measure => omega
              case rel => exact ⟨i + 1, by go_num, by omega, by omega, HR.out.1, fun j hj hf => by
                by_cases hji : j = i
                · rw [hji, HQ.out] at hf; exact absurd hf (by have := HG.out; omega)
                · exact HR.out.2 j (by omega) hf⟩
          · have hlz : ¬ (i : Int) < (m : Int) := by omega
            obtain rfl : m = i := by omega
            have HFN : Hid (∀ j, j < m → (v j).1 < 1099511627776 → (v j).1 < 4294967296) := HR.out.2
            have V4 : Hid (VSt w wr hb m es.length cap A bv be v f) := HR.out.1
            -- g
            obtain ⟨W5, hW5⟩ : ∃ W, W = wr.alloc (.cells #[.int .i64 m, .slice A es.length cap] 48) := ⟨_, rfl⟩
            obtain ⟨gb, hgb⟩ : ∃ b, b = wr.heap.size := ⟨_, rfl⟩
            have b5 : Below wr.heap.size wr W5 := by rw [hW5]; exact (Below.refl _ _).alloc (Nat.le_refl _) _
            have V5 := V4.out.bel b5
            have G5 : HBZ W5 gb m es.length cap A := by show W5.heap[gb]? = _; rw [hW5, hgb]; exact heap_alloc_new wr _
            obtain ⟨A1, c1, W6, hap, hown, b6⟩ := append_fresh (c2 := cap) kindE (W := W5) (show RowIn W5 A 5 encE es from (HA.out.below V5.below).at_) (by omega)
            have V6 := V5.bel b6
            have G6 := G5.bel b6
            have gbl : gb < W5.heap.size := (Array.getElem?_eq_some_iff.1 (show W5.heap[gb]? = _ from G5)).1
            have x2 := G6.c.2
            have x3 : W6.frozen? ⟨gb, 1, none⟩ = false := frozen_blk (show W6.heap[gb]? = _ from G6) 1
            have x1 : W5.cell? ⟨hb, 1, none⟩ = some (.slice A es.length cap) := V5.hdr.c.2
            obtain ⟨W7, hW7⟩ : ∃ W, W = W6.setCell ⟨gb, 1, none⟩ (.slice A1 es.length c1) := ⟨_, rfl⟩
            have he7 : Eff (fun k => k = gb) W6 W7 := by rw [hW7]; exact eff_setCell W6 gb 1 _
            have hhb : hb ≠ gb := fun h => by
              have := (Array.getElem?_eq_some_iff.1 (show wr.heap[hb]? = _ from V4.out.hdr)).1
              omega
            have G7 : HBZ W7 gb m es.length c1 A1 := by show W7.heap[gb]? = _; rw [hW7]; exact set_cell (show W6.heap[gb]? = _ from G6) 1 _
            have hwg : w.heap.size ≤ gb := by rw [hgb]; exact V4.out.below.size
            have V7 : VSt w W7 hb m es.length cap A bv be v f := by
              obtain ⟨k1, k2, k3, k4⟩ := V6
              obtain ⟨cv, kv, _⟩ := k3.blk
              obtain ⟨ce, ke, _⟩ := k4
              have hg : W6.heap[gb]? = _ := G6
              exact ⟨k1.trans (he7.belowB k1.size (fun k hk => by rw [hk]; exact hwg)), he7.heap k2 hhb, k3.eff he7 (ne_of_type kv hg (by decide)), rowIs_eff (show W6.rowIs be 3 m (intRow f) from ⟨ce, ke, by assumption⟩) he7 (ne_of_type ke hg (by decide))⟩
            have O7 : Own W7 W5.heap.size 60 5 A1 c1 encE es := hown.eff he7 (fun k hk _ _ h => by omega)
            have AP : Hid ((Builtin.append_ #[46, 46] 46 #[.slice (some ⟨(wr.alloc (.cells #[.int .i64 m, .slice A es.length cap] 48)).heap.size, 0, none⟩) 0 0, .slice A es.length cap]).run Try.prog ((wr.alloc (.cells #[.int .i64 m, .slice A es.length cap] 48)).alloc (.cells #[] 60)) = .ok (.slice A1 es.length c1) W6) := by rw [← hW5]; exact hap
            rw [show (wr.alloc (.cells #[.int .i64 m, .slice A es.length cap] 48)).heap.size = wr.heap.size + 1 by simp] at AP
            have hwB : w.heap.size ≤ W5.heap.size := V5.below.size
            have S7 : Hid (VSt w W7 hb m es.length cap A bv be v f ∧ HBZ W7 gb m es.length c1 A1 ∧ Own W7 W5.heap.size 60 5 A1 c1 encE es) := ⟨V7, G7, O7⟩
            have x1' : (wr.alloc (.cells #[.int .i64 m, .slice A es.length cap] 48)).cell? ⟨hb, 1, none⟩ = some (.slice A es.length cap) := by rw [← hW5]; exact x1
            have x1'' : ((wr.alloc (.cells #[.int .i64 m, .slice A es.length cap] 48)).alloc (.cells #[] 60)).cell? ⟨hb, 1, none⟩ = some (.slice A es.length cap) := by rw [← hW5]; exact (V5.bel ((Below.refl _ _).alloc (Nat.le_refl _) _)).hdr.c.2
            obtain ⟨B0, hB0⟩ : ∃ B0, W5.heap.size = B0 := ⟨_, rfl⟩
            rw [hB0] at S7 hwB
            have HW7 := Lib.hid hW7
            have HGB := Lib.hid hgb
            have HWB : Hid (w.heap.size ≤ B0 ∧ w.heap.size ≤ gb ∧ gb < B0) := ⟨hwB, hwg, by rw [← hB0]; exact gbl⟩
            rw [hgb] at x2 x3
            clear HR hi hk hlt b5 V5 G5 hap hown b6 V6 G6 gbl x1 he7 hhb G7 hwg V7 O7 hwB hB0 hW5 hW7 V4
            go_wp2_with (first | (refine wpL_v (some 83) rfl rfl (exec_append rfl (by rfl) (by rfl) AP.out) ?_))
            rw [← HGB.out]
            rw [← HW7.out]
            clear x1' x1'' x2 x3 y0 y1 HGB HW7 AP hlz hgb
            go_loopg [11] es.length (fun gk s11 wr => ∃ (i : Nat) (l : List REd), s11 = .int .i64 i ∧ i ≤ es.length ∧ es.length - i ≤ gk ∧ Hid (VSt w wr hb m es.length cap A bv be v f ∧ HBZ wr gb m es.length c1 A1 ∧ Own wr B0 60 5 A1 c1 encE l ∧ ScTo k es i l))
            case atStart => exact ⟨0, es, rfl, by omega, by omega, S7.out.1, S7.out.2.1, S7.out.2.2, rfl, fun j e he => by rw [if_neg (Nat.not_lt_zero _)]; exact he⟩
            case round =>
              clear S7
              obtain ⟨i, l, rfl, hi, hkk, HR⟩ := hrel
              obtain ⟨y0, y1⟩ := HR.out.2.1.c
              have hll := HR.out.2.2.2.1
              by_cases hlt : i < es.length
              · have hlz : (i : Int) < (es.length : Int) := by omega
                obtain ⟨e, he⟩ : ∃ e, es[i]? = some e := ⟨_, List.getElem?_eq_getElem hlt⟩
                have hem := List.mem_of_getElem? he
                have hok := HOK.out e hem
                have hbd := mul_bound hok.2.2.2.1 (HCO.out e hem) (by have := HKB.out; omega) HKB.out.2
                obtain ⟨hle, hnx⟩ := HR.out.2.2.2.next he
                have HVV : Hid (VSt w wr hb m es.length cap A bv be v f) := HR.out.1
                have HG : Hid (HBZ wr gb m es.length c1 A1) := HR.out.2.1
                have HO : Hid (Own wr B0 60 5 A1 c1 encE l) := HR.out.2.2.1
                have HNX := Lib.hid hnx
                clear HR
                obtain ⟨g, rfl, hg0, hg1, hfz, hrow⟩ := HO.out.at_ kindE (by omega)
                obtain ⟨_, cg, hcg⟩ := HO.out.blk rfl
                have G1 : wr.cell? ⟨g, i * 5 + 2, none⟩ = some (.int .i64 e.cost) := hrow i e hle 2 _ rfl
                have FZ : Hid (wr.frozen? ⟨g, i * 5 + 2, none⟩ = false) := hfz _
                obtain ⟨W8, hW8⟩ : ∃ W, W = wr.drew.setCell ⟨g, i * 5 + 2, none⟩ (.int .i64 (k * e.cost)) := ⟨_, rfl⟩
                have he8 : Eff (fun k => k = g) wr W8 := by rw [hW8]; exact ((Eff.refl _ wr).drew).trans (eff_setCell _ g _ _) (fun _ h => .inl h)
                have S8 : Hid (VSt w W8 hb m es.length cap A bv be v f ∧ HBZ W8 gb m es.length c1 (some ⟨g, 0, none⟩) ∧ Own W8 B0 60 5 (some ⟨g, 0, none⟩) c1 encE (l.set i (costE e (k * e.cost)))) :=
                  ⟨HVV.out.eff he8 (t := 60) (by decide) (fun k hk => by rw [hk]; exact ⟨by have := HWB.out.1; omega, cg, hcg⟩), HG.out.eff he8 (t := 60) (by decide) (fun k hk => by rw [hk]; exact ⟨cg, hcg⟩), by
                    rw [hW8]
                    exact own_setE (show Own wr.drew B0 60 5 (some ⟨g, 0, none⟩) c1 encE l from HO.out) hle _⟩
                have HW8 := Lib.hid hW8
                have hwm : IntKind.i64.wrap (k * e.cost) = k * e.cost := IntWalk.i64_in _ (by omega)
                have HWM := Lib.hid (And.intro hwm G1)
                have U1 : Hid (wr.cell? ⟨gb, 1, none⟩ = some (.slice (some ⟨g, 0, none⟩) es.length c1)) := y1
                clear he8 hW8 hcg hfz hrow hg0 hg1 hnx hle hbd hok hem he hwm G1
                go_wp2_with fail
                refine sca_r22 (fun _ _ _ _ _ h => h) (by omega) HWM.out.1 U1.out HWM.out.2 FZ ?_
                intro t92 t93 t94 t95 t96 t97 t98 t99 t100 t101 t102 t103 t104
                rw [← HW8.out]
                go_wp2_with fail
                go_roundg (es.length - (i + 1))
                case measure => omega
                case rel => exact ⟨i + 1, _, by go_num, by omega, by omega, S8.out.1, S8.out.2.1, S8.out.2.2, HNX.out⟩
              · have hlz : ¬ (i : Int) < (es.length : Int) := by omega
                obtain rfl : es.length = i := by omega
                have HL : Hid (l = es.map (fun e => costE e (k * e.cost))) := HR.out.2.2.2.all
                have hokl : ∀ e ∈ l, e.ok m := fun e' he' => by
                  rw [HL.out] at he'
                  obtain ⟨e, he, rfl⟩ := List.mem_map.1 he'
                  obtain ⟨k1, k2, k3, k4, k5, k6⟩ := HOK.out e he
                  have hbd := mul_bound k4 (HCO.out e he) (by have := HKB.out; omega) HKB.out.2
                  exact ⟨k1, k2, k3, hbd.1, Int.le_trans hbd.2 (by decide), k6⟩
                have hed : EdsIn wr A1 l := eds_of (HR.out.2.2.1.row kindE) (fun e' he' => by
                  rw [HL.out] at he'
                  obtain ⟨e, he, rfl⟩ := List.mem_map.1 he'
                  exact (HA.out.tails e he).below HR.out.1.below)
                have C50 := solve50 (ecap := c1) hed hokl (by omega) (by omega)
                rw [hll] at C50
                have hpl : l.map REd.plain = (es.map REd.plain).map (K.scE k) := by rw [HL.out, List.map_map, List.map_map]; rfl
                rw [hpl] at C50
                have CC := Lib.hid C50
                have HSC : Hid (K.Sol ((es.map REd.plain).map (K.scE k)) m (fun i => K.scV k (v i)) f ∧ ∀ e ∈ (es.map REd.plain).map (K.scE k), K.OkE m e) := by
                  refine ⟨K.scale_sol HKB.out.1 HEE.out (fun e he => ?_) HS.out (fun i hi hf => ?_), by rw [← hpl]; exact edges_ok hokl⟩
                  · obtain ⟨e0, h0, rfl⟩ := List.mem_map.1 he
                    have hbd := mul_bound (HOK.out e0 h0).2.2.2.1 (HCO.out e0 h0) (by have := HKB.out; omega) HKB.out.2
                    exact Int.le_trans hbd.2 (by decide)
                  · have hv2 := HFN.out i hi hf
                    have hbd := mul_bound (HS.out.fix.ok i hi).1 (show (v i).1 ≤ 4294967295 by omega) (by have := HKB.out; omega) HKB.out.2
                    exact Int.lt_of_le_of_lt hbd.2 (by decide)
                have V8 : Hid (VSt w wr hb m es.length cap A bv be v f) := HR.out.1
                clear HR hed hokl C50 hpl hi hkk hlt
                go_wp2_with fail
                with_reducible refine CC.out.mono ?_
                rintro r w9 ⟨bw, bg, v', f', rfl, hs, hv, hf, b9, _, _⟩
                have U : ∀ i, i < m → v' i = K.scV k (v i) ∧ f' i = f i := fun i hi => hs.unique HSC.out.2 HSC.out.1 i hi
                have V9 : Hid (VSt w w9 hb m es.length cap A bv be v f ∧ ValsAt w9 bw m (fun i => K.scV k (v i)) ∧ w9.rowIs bg 3 m (fun i => .int .i64 (f i))) := ⟨V8.out.bel b9, hv.congr (fun i hi => (U i hi).1), hf.congr (fun i hi => by rw [(U i hi).2])⟩
                clear b9 hs hv hf U y0 y1 CC V8 hlz hll
                obtain ⟨y0, y1⟩ := V9.out.1.hdr.c
                go_wp2_with fail
                with_reducible refine (same_ints V9.out.1.edg V9.out.2.2 (by omega)).mono ?_
                rintro r w10 ⟨rfl, b10⟩
                have V10 : Hid (VSt w w10 hb m es.length cap A bv be v f ∧ ValsAt w10 bw m (fun i => K.scV k (v i))) := ⟨V9.out.1.bel b10, V9.out.2.1.bel b10⟩
                clear b10 V9 y0 y1
                go_wp2_with fail
                go_loopg [14] m (fun gk s14 wr => ∃ i : Nat, s14 = .int .i64 i ∧ i ≤ m ∧ m - i ≤ gk ∧ Hid (VSt w wr hb m es.length cap A bv be v f ∧ ValsAt wr bw m (fun i => K.scV k (v i))))
                case atStart => exact ⟨0, rfl, by omega, by omega, V10.out⟩
                case round =>
                  clear V10
                  obtain ⟨i, rfl, hi, hkk, HR⟩ := hrel
                  obtain ⟨y0, y1⟩ := HR.out.1.hdr.c
                  by_cases hlt : i < m
                  · have hlz : (i : Int) < (m : Int) := by omega
                    obtain ⟨⟨q1, q2⟩, hq⟩ : ∃ x, v i = x := ⟨_, rfl⟩
                    obtain ⟨x1, x2⟩ := HR.out.1.v1 hlt hq
                    have hw0 := HR.out.2.at_ i hlt
                    rw [show K.scV k (v i) = (if q1 < 1099511627776 then k * q1 else q1, q2) from by rw [hq]; exact scV_pair k q1 q2] at hw0
                    obtain ⟨W11, hW11⟩ : ∃ W, W = wr.alloc (.cells #[.int .i64 q1, .int .i64 q2] 54) := ⟨_, rfl⟩
                    obtain ⟨tb, htb⟩ : ∃ b, b = wr.heap.size := ⟨_, rfl⟩
                    have b11 : Below wr.heap.size wr W11 := by rw [hW11]; exact (Below.refl _ _).alloc (Nat.le_refl _) _
                    have T11 : W11.heap[tb]? = some (.cells #[.int .i64 q1, .int .i64 q2] 54 (0, 0)) := by rw [hW11, htb]; exact heap_alloc_new wr _
                    by_cases hf : q1 < 1099511627776
                    · rw [if_pos hf] at hw0
                      have hbd := mul_bound (x := q1) (by have := (HS.out.fix.ok i hlt).1; rw [hq] at this; exact this) (show q1 ≤ 4294967295 by have := HFN.out i hlt (by rw [hq]; exact hf); rw [hq] at this; exact Int.le_sub_one_of_lt this) (by have := HKB.out; omega) HKB.out.2
                      have hwm : IntKind.i64.wrap (k * q1) = k * q1 := IntWalk.i64_in _ (by omega)
                      obtain ⟨W12, hW12⟩ : ∃ W, W = wr.alloc (.cells #[.int .i64 (k * q1), .int .i64 q2] 54) := ⟨_, rfl⟩
                      have b12 : Below wr.heap.size wr W12 := by rw [hW12]; exact (Below.refl _ _).alloc (Nat.le_refl _) _
                      have T12 : W12.heap[tb]? = some (.cells #[.int .i64 (k * q1), .int .i64 q2] 54 (0, 0)) := by rw [hW12, htb]; exact heap_alloc_new wr _
                      have R12 : Hid (VSt w W12 hb m es.length cap A bv be v f ∧ ValsAt W12 bw m (fun i => K.scV k (v i))) := ⟨HR.out.1.bel b12, HR.out.2.bel b12⟩
                      have z1 : W12.cell? ⟨bw, i * 2, none⟩ = some (.int .i64 (k * q1)) := (b12.cell (World.block_lt_of_cell? wr _ (hw0 0 _ rfl))).trans (hw0 0 _ rfl)
                      have z2 : W12.cell? ⟨bw, i * 2 + 1, none⟩ = some (.int .i64 q2) := (b12.cell (World.block_lt_of_cell? wr _ (hw0 1 _ rfl))).trans (hw0 1 _ rfl)
                      have z3 : W12.cell? ⟨tb, 0, none⟩ = some (.int .i64 (k * q1)) := by simp only [World.cell?, T12]; rfl
                      have z4 : W12.cell? ⟨tb, 1, none⟩ = some (.int .i64 q2) := by simp only [World.cell?, T12]; rfl
                      have HZ := Lib.hid (And.intro z1 (And.intro z2 (And.intro z3 z4)))
                      have HW := Lib.hid (And.intro hW12 htb)
                      clear hq hw0 hW11 htb b11 T11 hW12 b12 T12 HR hbd z1 z2 z3 z4
                      go_wp2_with fail
                      rw [← HW.out.1, ← HW.out.2]
                      have z1 := HZ.out.1
                      have z2 := HZ.out.2.1
                      have z3 := HZ.out.2.2.1
                      have z4 := HZ.out.2.2.2
                      have hlz : (i : Int) < (m : Int) := by omega
                      go_quiet (fail)
                      go_wp2_with fail
                      go_roundg (m - (i + 1))
                      case measure => omega
                      case rel => exact ⟨i + 1, by go_num, by omega, by omega, R12.out.1.bel (below_drewN (Below.refl _ _) nq), R12.out.2.bel (below_drewN (Below.refl _ _) nq)⟩
                    · rw [if_neg hf] at hw0
                      have R12 : Hid (VSt w W11 hb m es.length cap A bv be v f ∧ ValsAt W11 bw m (fun i => K.scV k (v i))) := ⟨HR.out.1.bel b11, HR.out.2.bel b11⟩
                      have z1 : W11.cell? ⟨bw, i * 2, none⟩ = some (.int .i64 q1) := (b11.cell (World.block_lt_of_cell? wr _ (hw0 0 _ rfl))).trans (hw0 0 _ rfl)
                      have z2 : W11.cell? ⟨bw, i * 2 + 1, none⟩ = some (.int .i64 q2) := (b11.cell (World.block_lt_of_cell? wr _ (hw0 1 _ rfl))).trans (hw0 1 _ rfl)
                      have z3 : W11.cell? ⟨tb, 0, none⟩ = some (.int .i64 q1) := by simp only [World.cell?, T11]; rfl
                      have z4 : W11.cell? ⟨tb, 1, none⟩ = some (.int .i64 q2) := by simp only [World.cell?, T11]; rfl
                      have HZ := Lib.hid (And.intro z1 (And.intro z2 (And.intro z3 z4)))
                      have HW := Lib.hid (And.intro hW11 htb)
                      clear hq hw0 hW11 htb b11 T11 HR z1 z2 z3 z4
                      go_wp2_with fail
                      rw [← HW.out.1, ← HW.out.2]
                      have z1 := HZ.out.1
                      have z2 := HZ.out.2.1
                      have z3 := HZ.out.2.2.1
                      have z4 := HZ.out.2.2.2
                      have hlz : (i : Int) < (m : Int) := by omega
                      go_quiet (fail)
                      go_wp2_with fail
                      go_roundg (m - (i + 1))
                      case measure => omega
                      case rel => exact ⟨i + 1, by go_num, by omega, by omega, R12.out.1.bel (below_drewN (Below.refl _ _) nq), R12.out.2.bel (below_drewN (Below.refl _ _) nq)⟩
                  · have hlz : ¬ (i : Int) < (m : Int) := by omega
                    obtain rfl : m = i := by omega
                    go_wp2_with fail
                    with_reducible refine (AW.out _).mono ?_
                    rintro r w9 ⟨rfl, b9⟩
                    have B9 : Hid (Below w.heap.size w w9) := (HR.out.1.below).trans (b9.mono (HR.out.1.below).size)
                    clear b9
                    go_wp2_with fail
                    go_ret
                    exact ⟨rfl, B9.out⟩
end Go.Proofs.Ytepfbhigeghjjaa.Q
