/- Value of the reference: the walk. -/
import Derived.Test.YtepfbhigeghjjaaO29d
import Derived.Test.YtepfbhigeghjjaaKRc
import Derived.Test.YtepfbhigeghjjaaKPb
namespace Go.Proofs.Ytepfbhigeghjjaa.Q
open Go.RowKit Go.Proofs.YtepfbhigeghjjaaW.PrintLast
set_option linter.unusedVariables false
set_option linter.unusedSimpArgs false

/-- What Value gives back: a value and whether it is one. -/
def VPost (w : World) (P : Int → Int → Bool → Prop) (r : Ending) (w' : World) : Prop := ∃ c s ok, r = .returned (.tuple #[.agg #[.int .i64 c, .int .i64 s], .bool ok]) ∧ P c s ok ∧ Below w.heap.size w w'
def VOk (v : Nat → K.V) (node : Nat) (c s : Int) (ok : Bool) : Prop := ok = true → K.OkV (c, s) ∧ K.leV (v node) (c, s)
theorem vno {v : Nat → K.V} {node : Nat} {c s : Int} : VOk v node c s false := fun h => by cases h
/-- The kids' values so far. -/
def YsTo (v : Nat → K.V) (tails : List Int) (i : Nat) (ys : List K.V) : Prop := ys.length = i ∧ ∀ (q : Nat) y, ys[q]? = some y → K.OkV y ∧ ∀ t, tails[q]? = some t → K.leV (v t.toNat) y
theorem YsTo.next {v : Nat → K.V} {tails : List Int} {i : Nat} {ys : List K.V} {y : K.V} {t : Int} (h : YsTo v tails i ys) (ht : tails[i]? = some t) (h1 : K.OkV y) (h2 : K.leV (v t.toNat) y) : YsTo v tails (i + 1) (ys ++ [y]) := by
  refine ⟨by rw [List.length_append, h.1]; rfl, fun q y' hq => ?_⟩
  by_cases hqi : q < i
  · rw [List.getElem?_append_left (by rw [h.1]; exact hqi)] at hq
    exact h.2 q y' hq
  · rw [List.getElem?_append_right (by rw [h.1]; omega), h.1] at hq
    have hq0 : q - i = 0 := by
      have := (List.getElem?_eq_some_iff.1 hq).1
      simp at this
      omega
    rw [hq0] at hq
    cases hq
    obtain rfl : q = i := by omega
    exact ⟨h1, fun t' ht' => by rw [ht] at ht'; cases ht'; exact h2⟩
theorem YsTo.le {v : Nat → K.V} {e : REd} {n : Nat} {ys : List K.V} (h : YsTo v e.tails e.tails.length ys) (he : e.ok n) (hv : ∀ i, i < n → K.OkV (v i)) : K.OkV (K.combV e.cost ys) ∧ K.leV (K.comb e.plain v) (K.combV e.cost ys) := by
  have hys : ∀ x ∈ ys, K.OkV x := fun x hx => by
    obtain ⟨q, hq⟩ := List.getElem?_of_mem hx
    exact (h.2 q x hq).1
  refine ⟨K.combV_ok he.2.2.2.1 he.2.2.2.2.1 hys, ?_⟩
  have e1 : K.comb e.plain v = K.combV e.cost (e.tails.map (fun t => v t.toNat)) := (tailsV e).symm
  rw [e1]
  refine K.combV_mono he.2.2.2.2.1 (by rw [List.length_map, h.1]) (fun x hx => ?_) hys (fun i x y hx hy => ?_)
  · obtain ⟨t, ht, rfl⟩ := List.mem_map.1 hx
    have := he.2.2.1 t ht
    exact hv _ (by omega)
  · rw [List.getElem?_map] at hx
    obtain ⟨t, ht, rfl⟩ := Option.map_eq_some_iff.1 hx
    exact (h.2 i y hy).2 t ht
structure WSt (wr : World) (hb db xb rb : Nat) (n : Int) (len cap : Nat) (A kA : Option Addr) (ke : Int) (kl kc : Nat) (e : REd) : Prop where
  hh : HBZ wr hb n len cap A
  hd : wr.heap[db]? = some (.cells #[.int .i64 ke, .slice kA kl kc] 74 (0, 0))
  hx : EBX wr xb e
  hr : wr.heap[rb]? = some (.cells #[.int .i64 0, .int .i64 0] 54 (0, 0))
theorem WSt.bel {wr W : World} {hb db xb rb : Nat} {n : Int} {len cap : Nat} {A kA : Option Addr} {ke : Int} {kl kc : Nat} {e : REd} (h : WSt wr hb db xb rb n len cap A kA ke kl kc e) (hb' : Below wr.heap.size wr W) : WSt W hb db xb rb n len cap A kA ke kl kc e :=
  ⟨h.hh.bel hb', below_heap hb' h.hd, h.hx.bel hb', below_heap hb' h.hr⟩
set_option maxHeartbeats 2000000 in
set_option maxRecDepth 100000 in
theorem val_r11 {hb len cap xb tb tof tl tc tn j db kb ko dc kl kc : Nat} {n ke left : Int} {A kA : Option Addr} {P : Int → Int → Bool → Prop} {Q : Exit → Act → World → Prop} (hp : ∀ c (a : Act) (i : Nat) (v : Value) w, Q (.panic c) (a.put (some i) v) w → Q (.panic c) a w)
    {u0 u1 u2 u3 u5 u7 u8 u9 u11 u14 u15 u16 u17 u18 u19 u20 u21 u22 u23 u24 u25 u26 u27 u28 u29 u30 u31 u32 u33 u34 u35 u36 u37 u38 u39 u40 u41 u42 u43 u44 u45 u46 u47 u48 u49 u50 u51 u52 u53 u54 u55 u56 u57 u58 u59 u60 u61 u62 u63 u64 u65 u66 u67 u68 u69 u70 u71 u72 u73 u74 u75 u76 u77 u78 u79 u80 u81 u82 u83 u84 u85 u86 u87 u88 u89 u90 u91 u92 : Value} {wr : World} (hjz : (j : Int) < (tl : Int)) (HR : wr.rangeAt hb 0 [.int .i64 n, .slice A len cap]) (X1 : wr.cell? ⟨xb, 1, none⟩ = some (.slice (some ⟨tb, tof, none⟩) tl tc)) (T1 : wr.cell? ⟨tb, tof + j, none⟩ = some (.int .i64 tn)) (D1 : wr.cell? ⟨db, 1, none⟩ = some (.slice (some ⟨kb, ko, none⟩) tl dc)) (KR : wr.rangeAt kb (ko + j * 2) [.int .i64 ke, .slice kA kl kc]) (CT : Hid (∀ W : World, Below wr.heap.size wr W → Calls Try.prog 56 #[.agg #[.int .i64 n, .slice A len cap], .int .i64 tn, .agg #[.int .i64 ke, .slice kA kl kc], .int .i64 left] W (VPost W P)))
    (hQ : ∀ (yb : Nat) (c s : Int) (ok : Bool) (w8 : World), Below wr.heap.size wr w8 → w8.heap[yb]? = some (.cells #[.int .i64 c, .int .i64 s] 54 (0, 0)) → P c s ok → ∀ (t61 t62 t63 t64 t65 t66 t67 t68 t69 t70 t71 t72 t73 t74 t75 t76 : Value), Q .normal { tmps := #[u0, u1, u2, u3, .pointer (some ⟨hb, 0, none⟩), u5, .pointer (some ⟨db, 0, none⟩), u7, u8, u9, .pointer (some ⟨xb, 0, none⟩), u11, .int .i64 left, .int .i64 j, .pointer (some ⟨yb, 0, none⟩), .bool ok, u16, u17, u18, u19, u20, u21, u22, u23, u24, u25, u26, u27, u28, u29, u30, u31, u32, u33, u34, u35, u36, u37, u38, u39, u40, u41, u42, u43, u44, u45, u46, u47, u48, u49, u50, u51, u52, u53, u54, u55, u56, u57, u58, u59, u60, t61, t62, t63, t64, t65, t66, t67, t68, t69, t70, t71, t72, t73, t74, t75, t76, u77, u78, u79, u80, u81, u82, u83, u84, u85, u86, u87, u88, u89, u90, u91, u92], defers := [] } (w8)) :
    Code.wp Try.prog (reg (Try.f56) 11) Q { tmps := #[u0, u1, u2, u3, .pointer (some ⟨hb, 0, none⟩), u5, .pointer (some ⟨db, 0, none⟩), u7, u8, u9, .pointer (some ⟨xb, 0, none⟩), u11, .int .i64 left, .int .i64 j, u14, u15, u16, u17, u18, u19, u20, u21, u22, u23, u24, u25, u26, u27, u28, u29, u30, u31, u32, u33, u34, u35, u36, u37, u38, u39, u40, u41, u42, u43, u44, u45, u46, u47, u48, u49, u50, u51, u52, u53, u54, u55, u56, u57, u58, u59, u60, u61, u62, u63, u64, u65, u66, u67, u68, u69, u70, u71, u72, u73, u74, u75, u76, u77, u78, u79, u80, u81, u82, u83, u84, u85, u86, u87, u88, u89, u90, u91, u92], defers := [] } wr := by
  have HQ := Lib.hid hQ
  have HP := Lib.hid hp
  clear hQ hp
  refine start_ (n := 19) (S := fun w' => w'.rangeAt hb 0 [.int .i64 n, .slice A len cap] ∧ w'.cell? ⟨xb, 1, none⟩ = some (.slice (some ⟨tb, tof, none⟩) tl tc) ∧ w'.cell? ⟨tb, tof + j, none⟩ = some (.int .i64 tn) ∧ w'.cell? ⟨db, 1, none⟩ = some (.slice (some ⟨kb, ko, none⟩) tl dc) ∧ w'.rangeAt kb (ko + j * 2) [.int .i64 ke, .slice kA kl kc]) (ds := [17]) #[false, false, false, false, false, false, false, false, false, false, false, false, false, false, false, false, false, false, false] (by kernel_rfl) rfl rfl ⟨HR, X1, T1, D1, KR⟩ (fun hHeld => ?_)
  refine pure_ (i := 1) (N := some 63) (v := ?_) (a' := ?_) #[false, true, false, false, false, false, false, false, false, false, false, false, false, false, false, false, false, false, false] rfl rfl (by kernel_rfl) (fun c a w h => HP.out c a _ _ w h) (Or.inl ⟨by rfl, ?_⟩) ?_ ?_
  rotate_left
  · intro w'
    go_simp
    with_reducible rfl
  rotate_left
  · simp only [Act.put, List.setIfInBounds_toArray, List.set_cons_zero, List.set_cons_succ, i64_w, i32_w]
    rfl
  refine pure_ (i := 3) (N := some 65) (v := ?_) (a' := ?_) #[false, true, false, true, false, false, false, false, false, false, false, false, false, false, false, false, false, false, false] rfl rfl (by kernel_rfl) (fun c a w h => HP.out c a _ _ w h) (Or.inl ⟨by rfl, ?_⟩) ?_ ?_
  rotate_left
  · intro w'
    go_simp
    with_reducible rfl
  rotate_left
  · simp only [Act.put, List.setIfInBounds_toArray, List.set_cons_zero, List.set_cons_succ, i64_w, i32_w]
    rfl
  refine pure_ (i := 6) (N := some 68) (v := ?_) (a' := ?_) #[false, true, false, true, false, false, true, false, false, false, false, false, false, false, false, false, false, false, false] rfl rfl (by kernel_rfl) (fun c a w h => HP.out c a _ _ w h) (Or.inl ⟨by rfl, ?_⟩) ?_ ?_
  rotate_left
  · intro w'
    go_simp
    with_reducible rfl
  rotate_left
  · simp only [Act.put, List.setIfInBounds_toArray, List.set_cons_zero, List.set_cons_succ, i64_w, i32_w]
    rfl
  refine pure_ (i := 8) (N := some 70) (v := ?_) (a' := ?_) #[false, true, false, true, false, false, true, false, true, false, false, false, false, false, false, false, false, false, false] rfl rfl (by kernel_rfl) (fun c a w h => HP.out c a _ _ w h) (Or.inl ⟨by rfl, ?_⟩) ?_ ?_
  rotate_left
  · intro w'
    go_simp
    with_reducible rfl
  rotate_left
  · simp only [Act.put, List.setIfInBounds_toArray, List.set_cons_zero, List.set_cons_succ, i64_w, i32_w]
    rfl
  refine pure_ (i := 11) (N := some 73) (v := ?_) (a' := ?_) #[false, true, false, true, false, false, true, false, true, false, false, true, false, false, false, false, false, false, false] rfl rfl (by kernel_rfl) (fun c a w h => HP.out c a _ _ w h) (Or.inl ⟨by rfl, ?_⟩) ?_ ?_
  rotate_left
  · intro w'
    go_simp
    with_reducible rfl
  rotate_left
  · simp only [Act.put, List.setIfInBounds_toArray, List.set_cons_zero, List.set_cons_succ, i64_w, i32_w]
    rfl
  refine take_ (i := 0) (N := some 62) (a' := ?_) #[true, true, false, true, false, false, true, false, true, false, false, true, false, false, false, false, false, false, false] rfl rfl (by kernel_rfl) (fun c a w h => HP.out c a _ _ w h) (yieldsIf_load_mid (by rfl) 48 _ rfl hb 0 (by rfl) [.int .i64 n, .slice A len cap] _ (fun w' h => h.1) Try.underlying48 rfl (by kernel_rfl)) hHeld ?_ ?_
  rotate_left
  · simp only [Act.put, List.setIfInBounds_toArray, List.set_cons_zero, List.set_cons_succ, i64_w, i32_w]
    rfl
  refine take_ (i := 2) (N := some 64) (v := ?_) (a' := ?_) #[true, true, true, true, false, false, true, false, true, false, false, true, false, false, false, false, false, false, false] rfl rfl (by kernel_rfl) (fun c a w h => HP.out c a _ _ w h) (Or.inl ⟨by rfl, ?_⟩) hHeld ?_ ?_
  rotate_left
  · rintro w' ⟨s0, s1, s2, s3, s4⟩
    go_simp
    with_reducible rfl
  rotate_left
  · simp only [Act.put, List.setIfInBounds_toArray, List.set_cons_zero, List.set_cons_succ, i64_w, i32_w]
    rfl
  refine pure_ (i := 4) (N := some 66) (v := ?_) (a' := ?_) #[true, true, true, true, true, false, true, false, true, false, false, true, false, false, false, false, false, false, false] rfl rfl (by kernel_rfl) (fun c a w h => HP.out c a _ _ w h) (Or.inl ⟨by rfl, ?_⟩) ?_ ?_
  rotate_left
  · intro w'
    go_simp
    with_reducible rfl
  rotate_left
  · simp only [Act.put, List.setIfInBounds_toArray, List.set_cons_zero, List.set_cons_succ, i64_w, i32_w]
    rfl
  refine take_ (i := 5) (N := some 67) (v := ?_) (a' := ?_) #[true, true, true, true, true, true, true, false, true, false, false, true, false, false, false, false, false, false, false] rfl rfl (by kernel_rfl) (fun c a w h => HP.out c a _ _ w h) (Or.inl ⟨by rfl, ?_⟩) hHeld ?_ ?_
  rotate_left
  · rintro w' ⟨s0, s1, s2, s3, s4⟩
    go_simp
    with_reducible rfl
  rotate_left
  · simp only [Act.put, List.setIfInBounds_toArray, List.set_cons_zero, List.set_cons_succ, i64_w, i32_w]
    rfl
  refine take_ (i := 7) (N := some 69) (v := ?_) (a' := ?_) #[true, true, true, true, true, true, true, true, true, false, false, true, false, false, false, false, false, false, false] rfl rfl (by kernel_rfl) (fun c a w h => HP.out c a _ _ w h) (Or.inl ⟨by rfl, ?_⟩) hHeld ?_ ?_
  rotate_left
  · rintro w' ⟨s0, s1, s2, s3, s4⟩
    go_simp
    with_reducible rfl
  rotate_left
  · simp only [Act.put, List.setIfInBounds_toArray, List.set_cons_zero, List.set_cons_succ, i64_w, i32_w]
    rfl
  refine pure_ (i := 9) (N := some 71) (v := ?_) (a' := ?_) #[true, true, true, true, true, true, true, true, true, true, false, true, false, false, false, false, false, false, false] rfl rfl (by kernel_rfl) (fun c a w h => HP.out c a _ _ w h) (Or.inl ⟨by rfl, ?_⟩) ?_ ?_
  rotate_left
  · intro w'
    go_simp
    with_reducible rfl
  rotate_left
  · simp only [Act.put, List.setIfInBounds_toArray, List.set_cons_zero, List.set_cons_succ, i64_w, i32_w]
    rfl
  refine take_ (i := 10) (N := some 72) (a' := ?_) #[true, true, true, true, true, true, true, true, true, true, true, true, false, false, false, false, false, false, false] rfl rfl (by kernel_rfl) (fun c a w h => HP.out c a _ _ w h) (yieldsIf_load_mid (by rfl) 74 _ rfl kb (ko + j * 2) (by rfl) [.int .i64 ke, .slice kA kl kc] _ (fun w' h => h.2.2.2.2) Try.underlying74 rfl (by kernel_rfl)) hHeld ?_ ?_
  rotate_left
  · simp only [Act.put, List.setIfInBounds_toArray, List.set_cons_zero, List.set_cons_succ, i64_w, i32_w]
    rfl
  refine join_ (σ := Nat × Int × Int × Bool) 2 #[true, true, true, true, true, true, true, true, true, true, true, true, true, true, true, true, true, false, false] (fun s => [(74, .tuple #[.agg #[.int .i64 s.2.1, .int .i64 s.2.2.1], .bool s.2.2.2]), (61, .tuple #[.agg #[.int .i64 s.2.1, .int .i64 s.2.2.1], .bool s.2.2.2]), (75, .agg #[.int .i64 s.2.1, .int .i64 s.2.2.1]), (76, .bool s.2.2.2), (14, .pointer (some ⟨s.1, 0, none⟩))]) (fun s w' => w'.heap[s.1]? = some (.cells #[.int .i64 0, .int .i64 0] 54 (0, 0)) ∧ Below wr.heap.size wr w' ∧ wr.heap.size ≤ s.1 ∧ P s.2.1 s.2.2.1 s.2.2.2 ∧ (w'.rangeAt hb 0 [.int .i64 n, .slice A len cap] ∧ w'.cell? ⟨xb, 1, none⟩ = some (.slice (some ⟨tb, tof, none⟩) tl tc) ∧ w'.cell? ⟨tb, tof + j, none⟩ = some (.int .i64 tn) ∧ w'.cell? ⟨db, 1, none⟩ = some (.slice (some ⟨kb, ko, none⟩) tl dc) ∧ w'.rangeAt kb (ko + j * 2) [.int .i64 ke, .slice kA kl kc])) ?_ ?_
  rotate_left
  · intro hCont
    refine two_ (i := 12) (j := 16) (Ni := some 74) (Nj := some 14) #[true, true, true, true, true, true, true, true, true, true, true, true, true, false, false, false, false, false, false] #[true, true, true, true, true, true, true, true, true, true, true, true, false, false, false, false, true, false, false] rfl rfl rfl rfl (by kernel_rfl) (by decide) (by decide) (fun K hK => ?_) (fun K hK => ?_)
    · skip
      refine goesV_ Try.func56 (by kernel_rfl) rfl #[.agg #[.int .i64 n, .slice A len cap], .int .i64 tn, .agg #[.int .i64 ke, .slice kA kl kc], .int .i64 left] (by rfl) rfl rfl (by rfl) (by simp only [List.map_toArray, List.map_cons, List.map_nil]; rfl) ?_
      with_reducible refine (CT.out (wr.drew) ((Below.refl wr.heap.size wr).drew)).mono ?_
      rintro r w4 ⟨c, s, ok, rfl, hp4, b4⟩
      have BB4 : Hid (Below wr.heap.size wr w4) := ((Below.refl wr.heap.size wr).drew).trans (b4.mono ((Below.refl wr.heap.size wr).drew).size)
      have HP4 := Lib.hid hp4
      have e4 := Eff.of_below b4 (fun _ => False)
      clear hp4 b4
      refine ⟨_, rfl, ?_⟩
      refine hK.out _ _ ⟨(rangeAt_eff hHeld.1 e4 (fun h => h)), (Eff.cell e4 hHeld.2.1 (fun h => h)), (Eff.cell e4 hHeld.2.2.1 (fun h => h)), (Eff.cell e4 hHeld.2.2.2.1 (fun h => h)), (rangeAt_eff hHeld.2.2.2.2 e4 (fun h => h))⟩ (fun hHeld => ?_)
      clear hK K
      refine norm_ (a' := ?_) ?_ ?_
      rotate_left
      · show Act.put _ (some 74) _ = _
        simp only [Act.put, List.setIfInBounds_toArray, List.set_cons_zero, List.set_cons_succ, i64_w, i32_w]
        rfl
      refine pure_ (i := 13) (N := some 61) (v := ?_) (a' := ?_) #[true, true, true, true, true, true, true, true, true, true, true, true, true, true, false, false, false, false, false] rfl rfl (by kernel_rfl) (fun c a w h => HP.out c a _ _ w h) (Or.inl ⟨by rfl, ?_⟩) ?_ ?_
      rotate_left
      · intro w'
        go_simp
        with_reducible rfl
      rotate_left
      · simp only [Act.put, List.setIfInBounds_toArray, List.set_cons_zero, List.set_cons_succ, i64_w, i32_w]
        rfl
      refine pure_ (i := 14) (N := some 75) (v := ?_) (a' := ?_) #[true, true, true, true, true, true, true, true, true, true, true, true, true, true, true, false, false, false, false] rfl rfl (by kernel_rfl) (fun c a w h => HP.out c a _ _ w h) (Or.inl ⟨by rfl, ?_⟩) ?_ ?_
      rotate_left
      · intro w'
        go_simp
        with_reducible rfl
      rotate_left
      · simp only [Act.put, List.setIfInBounds_toArray, List.set_cons_zero, List.set_cons_succ, i64_w, i32_w]
        rfl
      refine pure_ (i := 15) (N := some 76) (v := ?_) (a' := ?_) #[true, true, true, true, true, true, true, true, true, true, true, true, true, true, true, true, false, false, false] rfl rfl (by kernel_rfl) (fun c a w h => HP.out c a _ _ w h) (Or.inl ⟨by rfl, ?_⟩) ?_ ?_
      rotate_left
      · intro w'
        go_simp
        with_reducible rfl
      rotate_left
      · simp only [Act.put, List.setIfInBounds_toArray, List.set_cons_zero, List.set_cons_succ, i64_w, i32_w]
        rfl
      refine one_ (i := 16) (N := some 14) #[true, true, true, true, true, true, true, true, true, true, true, true, true, true, true, true, true, false, false] rfl rfl (by kernel_rfl) (by decide) (fun K hK => ?_)
      refine value_ (w1 := ?_) (v := ?_) (by rfl) rfl ?_ ?_
      rotate_left 2
      · go_simp
        constructor
        · rfl
        · rfl
      refine hK.out _ _ ⟨(rangeAt_eff hHeld.1 (eff_alloc _ _) (fun h => h)), (Eff.cell (eff_alloc _ _) hHeld.2.1 (fun h => h)), (Eff.cell (eff_alloc _ _) hHeld.2.2.1 (fun h => h)), (Eff.cell (eff_alloc _ _) hHeld.2.2.2.1 (fun h => h)), (rangeAt_eff hHeld.2.2.2.2 (eff_alloc _ _) (fun h => h))⟩ (fun hHeld => ?_)
      clear hK K
      refine norm_ (a' := ?_) ?_ ?_
      rotate_left
      · show Act.put _ (some 14) _ = _
        simp only [Act.put, List.setIfInBounds_toArray, List.set_cons_zero, List.set_cons_succ, i64_w, i32_w]
        rfl
      exact norm_ (by simp only [putAll, Act.put, List.setIfInBounds_toArray, List.set_cons_zero, List.set_cons_succ]) (hCont (w4.heap.size, c, s, ok) _ ⟨heap_alloc_new w4 _, ((BB4.out).alloc (BB4.out).size _), (BB4.out).size, HP4.out, hHeld⟩)
    · skip
      refine value_ (w1 := ?_) (v := ?_) (by rfl) rfl ?_ ?_
      rotate_left 2
      · go_simp
        constructor
        · rfl
        · rfl
      refine hK.out _ _ ⟨(rangeAt_eff hHeld.1 (eff_alloc _ _) (fun h => h)), (Eff.cell (eff_alloc _ _) hHeld.2.1 (fun h => h)), (Eff.cell (eff_alloc _ _) hHeld.2.2.1 (fun h => h)), (Eff.cell (eff_alloc _ _) hHeld.2.2.2.1 (fun h => h)), (rangeAt_eff hHeld.2.2.2.2 (eff_alloc _ _) (fun h => h))⟩ (fun hHeld => ?_)
      clear hK K
      refine norm_ (a' := ?_) ?_ ?_
      rotate_left
      · show Act.put _ (some 14) _ = _
        simp only [Act.put, List.setIfInBounds_toArray, List.set_cons_zero, List.set_cons_succ, i64_w, i32_w]
        rfl
      refine one_ (i := 12) (N := some 74) #[true, true, true, true, true, true, true, true, true, true, true, true, true, false, false, false, true, false, false] rfl rfl (by kernel_rfl) (by decide) (fun K hK => ?_)
      refine goesV_ Try.func56 (by kernel_rfl) rfl #[.agg #[.int .i64 n, .slice A len cap], .int .i64 tn, .agg #[.int .i64 ke, .slice kA kl kc], .int .i64 left] (by rfl) rfl rfl (by rfl) (by simp only [List.map_toArray, List.map_cons, List.map_nil]; rfl) ?_
      with_reducible refine (CT.out ((wr.alloc (.cells #[.int .i64 0, .int .i64 0] 54)).drew) (((Below.refl wr.heap.size wr).alloc (Nat.le_refl _) _).drew)).mono ?_
      rintro r w4 ⟨c, s, ok, rfl, hp4, b4⟩
      have BB4 : Hid (Below wr.heap.size wr w4) := (((Below.refl wr.heap.size wr).alloc (Nat.le_refl _) _).drew).trans (b4.mono (((Below.refl wr.heap.size wr).alloc (Nat.le_refl _) _).drew).size)
      have HP4 := Lib.hid hp4
      have e4 := Eff.of_below b4 (fun _ => False)
      have ZB4 := Lib.hid (below_heap b4 (heap_alloc_new wr _))
      clear hp4 b4
      refine ⟨_, rfl, ?_⟩
      refine hK.out _ _ ⟨(rangeAt_eff hHeld.1 e4 (fun h => h)), (Eff.cell e4 hHeld.2.1 (fun h => h)), (Eff.cell e4 hHeld.2.2.1 (fun h => h)), (Eff.cell e4 hHeld.2.2.2.1 (fun h => h)), (rangeAt_eff hHeld.2.2.2.2 e4 (fun h => h))⟩ (fun hHeld => ?_)
      clear hK K
      refine norm_ (a' := ?_) ?_ ?_
      rotate_left
      · show Act.put _ (some 74) _ = _
        simp only [Act.put, List.setIfInBounds_toArray, List.set_cons_zero, List.set_cons_succ, i64_w, i32_w]
        rfl
      refine pure_ (i := 13) (N := some 61) (v := ?_) (a' := ?_) #[true, true, true, true, true, true, true, true, true, true, true, true, true, true, false, false, true, false, false] rfl rfl (by kernel_rfl) (fun c a w h => HP.out c a _ _ w h) (Or.inl ⟨by rfl, ?_⟩) ?_ ?_
      rotate_left
      · intro w'
        go_simp
        with_reducible rfl
      rotate_left
      · simp only [Act.put, List.setIfInBounds_toArray, List.set_cons_zero, List.set_cons_succ, i64_w, i32_w]
        rfl
      refine pure_ (i := 14) (N := some 75) (v := ?_) (a' := ?_) #[true, true, true, true, true, true, true, true, true, true, true, true, true, true, true, false, true, false, false] rfl rfl (by kernel_rfl) (fun c a w h => HP.out c a _ _ w h) (Or.inl ⟨by rfl, ?_⟩) ?_ ?_
      rotate_left
      · intro w'
        go_simp
        with_reducible rfl
      rotate_left
      · simp only [Act.put, List.setIfInBounds_toArray, List.set_cons_zero, List.set_cons_succ, i64_w, i32_w]
        rfl
      refine pure_ (i := 15) (N := some 76) (v := ?_) (a' := ?_) #[true, true, true, true, true, true, true, true, true, true, true, true, true, true, true, true, true, false, false] rfl rfl (by kernel_rfl) (fun c a w h => HP.out c a _ _ w h) (Or.inl ⟨by rfl, ?_⟩) ?_ ?_
      rotate_left
      · intro w'
        go_simp
        with_reducible rfl
      rotate_left
      · simp only [Act.put, List.setIfInBounds_toArray, List.set_cons_zero, List.set_cons_succ, i64_w, i32_w]
        rfl
      exact norm_ (by simp only [putAll, Act.put, List.setIfInBounds_toArray, List.set_cons_zero, List.set_cons_succ]) (hCont (wr.heap.size, c, s, ok) _ ⟨ZB4.out, BB4.out, ((Below.refl wr.heap.size wr).drew).size, HP4.out, hHeld⟩)
  rintro ⟨yb, c, s, ok⟩ w1 ⟨z1, z2, z3, z4, hHeld⟩
  have XX := Lib.hid (And.intro z1 (And.intro z2 (And.intro z3 z4)))
  clear z1 z2 z3 z4
  refine norm_ (a' := ?_) ?_ ?_
  rotate_left
  · simp only [putAll, Act.put, List.setIfInBounds_toArray, List.set_cons_zero, List.set_cons_succ]
    rfl
  refine last_ (i := 17) (N := none) #[true, true, true, true, true, true, true, true, true, true, true, true, true, true, true, true, true, true, false] rfl rfl (by kernel_rfl) (by decide) (fun K hK => ?_)
  refine skip_ (w1 := w1.setCells yb 0 [.int .i64 c, .int .i64 s]) (by rfl) rfl (run_u (run_storeAt_mid _ yb 0 54 #[.int .i64 c, .int .i64 s] (box_there XX.out.1 rfl) (by kernel_rfl) (by kernel_rfl))) ?_
  refine hK.out _ _ ?_
  clear hK K
  refine pure_ (i := 18) (N := some 15) (v := ?_) (a' := ?_) #[true, true, true, true, true, true, true, true, true, true, true, true, true, true, true, true, true, true, true] rfl rfl (by kernel_rfl) (fun c a w h => HP.out c a _ _ w h) (Or.inl ⟨by rfl, ?_⟩) ?_ ?_
  rotate_left
  · intro w'
    go_simp
    with_reducible rfl
  rotate_left
  · simp only [Act.put, List.setIfInBounds_toArray, List.set_cons_zero, List.set_cons_succ, i64_w, i32_w]
    rfl
  refine done_ (by kernel_rfl) ?_
  exact HQ.out _ _ _ _ _ (box_set54 XX.out.1 XX.out.2.1 XX.out.2.2.1 c s).2 (box_set54 XX.out.1 XX.out.2.1 XX.out.2.2.1 c s).1 XX.out.2.2.2 _ _ _ _ _ _ _ _ _ _ _ _ _ _ _ _

/-- What lies in memory behind the first region. -/
structure WS0 (w wr : World) (hb db rb : Nat) (n : Int) (len cap : Nat) (A kA : Option Addr) (ke : Int) (kl kc : Nat) : Prop where
  hh : HBZ wr hb n len cap A
  hd : wr.heap[db]? = some (.cells #[.int .i64 ke, .slice kA kl kc] 74 (0, 0))
  hr : wr.heap[rb]? = some (.cells #[.int .i64 0, .int .i64 0] 54 (0, 0))
  below : Below w.heap.size w wr
  ge : w.heap.size ≤ rb
/-- The zero value stored once more. -/
theorem WS0.z {w wr : World} {hb db rb : Nat} {n : Int} {len cap : Nat} {A kA : Option Addr} {ke : Int} {kl kc : Nat} (h : WS0 w wr hb db rb n len cap A kA ke kl kc) : ((wr.setCell ⟨rb, 0, none⟩ (.int .i64 0)).setCell ⟨rb, 1, none⟩ (.int .i64 0)).heap[rb]? = some (.cells #[.int .i64 0, .int .i64 0] 54 (0, 0)) ∧ Below w.heap.size w ((wr.setCell ⟨rb, 0, none⟩ (.int .i64 0)).setCell ⟨rb, 1, none⟩ (.int .i64 0)) :=
  ⟨set_cell (set_cell h.hr 0 _) 1 _, (h.below.setCell (p := ⟨rb, 0, none⟩) h.ge _).setCell (p := ⟨rb, 1, none⟩) h.ge _⟩
set_option maxHeartbeats 8000000 in
set_option maxRecDepth 100000 in
theorem value56 {n : Nat} {es : List REd} {v : Nat → K.V} (hok : ∀ e ∈ es, e.ok n) (hm : es.length ≤ 1000) (hn : n ≤ 1000) (hv : ∀ i, i < n → K.OkV (v i)) (hle : ∀ e ∈ es.map REd.plain, K.leV (v e.head) (K.comb e v)) :
    ∀ (m : Nat) (t : DT m) (w : World) (A : Option Addr) (cap node : Nat) (most : Int), EdsIn w A es → TIn w m t → node < n → -8796093022208 ≤ most → most ≤ 1000 → Calls Try.prog 56 #[.agg #[.int .i64 n, .slice A es.length cap], .int .i64 node, .agg (encT m t).toArray, .int .i64 most] w (VPost w (VOk v node)) := by
  intro m
  induction m with
  | zero => intro t; exact t.elim
  | succ m ih =>
    rintro ⟨ke, kA, kc, ks⟩ w A cap node most hA hT hnode hmost0 hmost1
    have IH := Lib.hid ih
    have HOK := Lib.hid hok
    have HV := Lib.hid (And.intro hv hle)
    have HA := Lib.hid hA
    have HT : Hid (∀ (j : Nat) k, ks[j]? = some k → (∃ b o, kA = some ⟨b, o, none⟩ ∧ w.rangeAt b (o + j * 2) (encT m k)) ∧ TIn w m k) := hT
    clear ih hok hv hle hA hT
    show Calls Try.prog 56 #[.agg #[.int .i64 n, .slice A es.length cap], .int .i64 node, .agg #[.int .i64 ke, .slice kA ks.length kc], .int .i64 most] w _
    obtain ⟨W3, hW3⟩ : ∃ W, W = ((w.alloc (.cells #[.int .i64 n, .slice A es.length cap] 48)).alloc (.cells #[.int .i64 ke, .slice kA ks.length kc] 74)).alloc (.cells #[.int .i64 0, .int .i64 0] 54) := ⟨_, rfl⟩
    obtain ⟨hb, hhb⟩ : ∃ b, b = w.heap.size := ⟨_, rfl⟩
    obtain ⟨db, hdb⟩ : ∃ b, b = w.heap.size + 1 := ⟨_, rfl⟩
    obtain ⟨rb, hrb⟩ : ∃ b, b = w.heap.size + 1 + 1 := ⟨_, rfl⟩
    have S3 : Hid (WS0 w W3 hb db rb n es.length cap A kA ke ks.length kc) := by
      have s1 : (w.alloc (.cells #[.int .i64 n, .slice A es.length cap] 48)).heap.size = w.heap.size + 1 := by simp
      have s2 : ((w.alloc (.cells #[.int .i64 n, .slice A es.length cap] 48)).alloc (.cells #[.int .i64 ke, .slice kA ks.length kc] 74)).heap.size = w.heap.size + 1 + 1 := by simp
      have g1 := (eff_alloc _ (.cells #[.int .i64 0, .int .i64 0] 54)).heap ((eff_alloc _ (.cells #[.int .i64 ke, .slice kA ks.length kc] 74)).heap (heap_alloc_new w (.cells #[.int .i64 n, .slice A es.length cap] 48)) (fun h => h)) (fun h => h)
      have g2 := (eff_alloc _ (.cells #[.int .i64 0, .int .i64 0] 54)).heap (heap_alloc_new (w.alloc (.cells #[.int .i64 n, .slice A es.length cap] 48)) (.cells #[.int .i64 ke, .slice kA ks.length kc] 74)) (fun h => h)
      have g3 := heap_alloc_new ((w.alloc (.cells #[.int .i64 n, .slice A es.length cap] 48)).alloc (.cells #[.int .i64 ke, .slice kA ks.length kc] 74)) (.cells #[.int .i64 0, .int .i64 0] 54)
      rw [s1] at g2
      rw [s2] at g3
      rw [hW3, hhb, hdb, hrb]
      exact ⟨g1, g2, g3, (((Below.refl w.heap.size w).alloc (Nat.le_refl _) _).alloc (by simp) _).alloc (by simp; omega) _, by omega⟩
    have cell : ∀ (o : Nat) (u : Value) (b : Nat), W3.cell? ⟨b, o, none⟩ = some u → (((w.alloc (.cells #[.int .i64 n, .slice A es.length cap] 48)).alloc (.cells #[.int .i64 ke, .slice kA ks.length kc] 74)).alloc (.cells #[.int .i64 0, .int .i64 0] 54)).cell? ⟨b, o, none⟩ = some u := fun o u b h => by rw [← hW3]; exact h
    have q0 : W3.cell? ⟨db, 0, none⟩ = some (.int .i64 ke) := by simp only [World.cell?, S3.out.hd]; rfl
    have q1 : W3.cell? ⟨hb, 1, none⟩ = some (.slice A es.length cap) := S3.out.hh.c.2
    have q2 : W3.cell? ⟨rb, 0, none⟩ = some (.int .i64 0) := by simp only [World.cell?, S3.out.hr]; rfl
    have q3 : W3.cell? ⟨rb, 1, none⟩ = some (.int .i64 0) := by simp only [World.cell?, S3.out.hr]; rfl
    have q4 : W3.frozen? ⟨rb, 0, none⟩ = false := frozen_blk S3.out.hr 0
    have q5 : W3.frozen? ⟨rb, 1, none⟩ = false := frozen_blk S3.out.hr 1
    have HW := Lib.hid (And.intro hW3 (And.intro hhb (And.intro hdb hrb)))
    rw [hW3, hhb] at q1
    rw [hW3, hdb] at q0
    rw [hW3, hrb] at q2 q3 q4 q5
    clear cell hW3 hhb hdb hrb
    by_cases h1 : most ≤ 0
    · go_enter Try.func56, Try.ntmps56
      go_wp2_with fail
      rw [← HW.out.1, ← HW.out.2.2.2]
      refine bodyPost_ret (res_ct (p := 8) (u := 9) rfl _ _ rb [.int .i64 0, .int .i64 0] (by rfl) ?_ Try.underlying54 rfl (by kernel_rfl)) rfl ?_
      · exact box_range (L := [.int .i64 0, .int .i64 0]) (S3.out.hr) 0 _ (fun j v h => by rw [Nat.zero_add]; exact h)
      · exact ⟨_, _, false, rfl, vno, S3.out.below⟩
    by_cases h2 : ke < 0
    · go_enter Try.func56, Try.ntmps56
      go_wp2_with fail
      rw [← HW.out.1, ← HW.out.2.2.2]
      refine bodyPost_ret (res_ct (p := 8) (u := 9) rfl _ _ rb [.int .i64 0, .int .i64 0] (by rfl) ?_ Try.underlying54 rfl (by kernel_rfl)) rfl ?_
      · exact box_range (L := [.int .i64 0, .int .i64 0]) (S3.out.hr) 0 _ (fun j v h => by rw [Nat.zero_add]; exact h)
      · exact ⟨_, _, false, rfl, vno, S3.out.below⟩
    by_cases h3 : (es.length : Int) ≤ ke
    · go_enter Try.func56, Try.ntmps56
      go_wp2_with fail
      rw [← HW.out.1, ← HW.out.2.2.2]
      refine bodyPost_ret (res_ct (p := 8) (u := 9) rfl _ _ rb [.int .i64 0, .int .i64 0] (by rfl) ?_ Try.underlying54 rfl (by kernel_rfl)) rfl ?_
      · exact box_range (L := [.int .i64 0, .int .i64 0]) (S3.out.hr) 0 _ (fun j v h => by rw [Nat.zero_add]; exact h)
      · exact ⟨_, _, false, rfl, vno, S3.out.below⟩
    obtain ⟨kx, rfl⟩ : ∃ kx : Nat, ke = kx := ⟨ke.toNat, (Int.toNat_of_nonneg (by omega)).symm⟩
    have hkl : kx < es.length := by omega
    have hkz : (kx : Int) < (es.length : Int) := by omega
    obtain ⟨e, he⟩ : ∃ e, es[kx]? = some e := ⟨_, List.getElem?_eq_getElem hkl⟩
    have hoke := HOK.out e (List.mem_of_getElem? he)
    have HTI := Lib.hid (HA.out.tails e (List.mem_of_getElem? he))
    obtain ⟨b, o, rfl, z0, z1, z2, z3, z4⟩ := HA.out.c S3.out.below he
    obtain ⟨hn', hhn⟩ : ∃ x, e.head.toNat = x := ⟨_, rfl⟩
    have hhe : e.head = (hn' : Int) := by rw [← hhn, Int.toNat_of_nonneg hoke.1]
    have HPH : Hid (e.plain.head = hn' ∧ e.plain ∈ es.map REd.plain) := ⟨hhn, List.mem_map.2 ⟨e, List.mem_of_getElem? he, rfl⟩⟩
    have HOE := Lib.hid hoke
    obtain ⟨W4, hW4⟩ : ∃ W, W = W3.alloc (.cells #[.int .i64 hn', .slice e.A e.tails.length e.cap, .int .i64 e.cost, .int .i64 e.l0, .int .i64 e.l1] 60) := ⟨_, rfl⟩
    obtain ⟨xb, hxb⟩ : ∃ b, b = W3.heap.size := ⟨_, rfl⟩
    have b4 : Below W3.heap.size W3 W4 := by rw [hW4]; exact (Below.refl _ _).alloc (Nat.le_refl _) _
    have X4 : W4.heap[xb]? = some (.cells #[.int .i64 hn', .slice e.A e.tails.length e.cap, .int .i64 e.cost, .int .i64 e.l0, .int .i64 e.l1] 60 (0, 0)) := by rw [hW4, hxb]; exact heap_alloc_new W3 _
    have B4 : Hid (Below w.heap.size w W4) := S3.out.below.trans (b4.mono S3.out.below.size)
    have S4 : Hid (WSt W4 hb db xb rb n es.length cap (some ⟨b, o, none⟩) kA kx ks.length kc e) := ⟨S3.out.hh.bel b4, below_heap b4 S3.out.hd, by show W4.heap[xb]? = _; rw [hhe]; exact X4, below_heap b4 S3.out.hr⟩
    have HG : Hid (w.heap.size ≤ rb) := S3.out.ge
    have hs3 : W3.heap.size = w.heap.size + 1 + 1 + 1 := by rw [HW.out.1]; simp
    have u1 : W4.cell? ⟨db, 1, none⟩ = some (.slice kA ks.length kc) := by simp only [World.cell?, S4.out.hd]; rfl
    have u2 : W4.cell? ⟨rb, 0, none⟩ = some (.int .i64 0) := by simp only [World.cell?, S4.out.hr]; rfl
    have u3 : W4.cell? ⟨rb, 1, none⟩ = some (.int .i64 0) := by simp only [World.cell?, S4.out.hr]; rfl
    have u4 : W4.frozen? ⟨rb, 0, none⟩ = false := frozen_blk S4.out.hr 0
    have u5 : W4.frozen? ⟨rb, 1, none⟩ = false := frozen_blk S4.out.hr 1
    have HW4 := Lib.hid (And.intro hW4 (show xb = w.heap.size + 1 + 1 + 1 from by rw [hxb, hs3]))
    rw [hhe] at z0
    rw [HW.out.1] at z0 z1 z2 z3 z4
    rw [hW4, HW.out.1, HW.out.2.2.1] at u1
    rw [hW4, HW.out.1, HW.out.2.2.2] at u2 u3 u4 u5
    clear he hoke hhn hhe hW4 hxb b4 X4 hs3 S3 h2 h3
    by_cases h4 : hn' = node
    case neg =>
      have g4 : ((hn' : Int) == (node : Int)) = false := beq_eq_false_iff_ne.2 (by omega)
      clear h4
      go_enter Try.func56, Try.ntmps56
      go_wp2_with fail
      rw [← HW.out.1, ← HW4.out.1, ← HW.out.2.2.2]
      refine bodyPost_ret (res_ct (p := 8) (u := 9) rfl _ _ rb [.int .i64 0, .int .i64 0] (by rfl) ?_ Try.underlying54 rfl (by kernel_rfl)) rfl ?_
      · exact box_range (L := [.int .i64 0, .int .i64 0]) (S4.out.hr) 0 _ (fun j v h => by rw [Nat.zero_add]; exact h)
      · exact ⟨_, _, false, rfl, vno, B4.out⟩
    subst h4
    by_cases h5 : ks.length = e.tails.length
    case neg =>
      have g5 : ((ks.length : Int) == (e.tails.length : Int)) = false := beq_eq_false_iff_ne.2 (by omega)
      clear h5
      go_enter Try.func56, Try.ntmps56
      go_wp2_with fail
      rw [← HW.out.1, ← HW4.out.1, ← HW.out.2.2.2]
      refine bodyPost_ret (res_ct (p := 8) (u := 9) rfl _ _ rb [.int .i64 0, .int .i64 0] (by rfl) ?_ Try.underlying54 rfl (by kernel_rfl)) rfl ?_
      · exact box_range (L := [.int .i64 0, .int .i64 0]) (S4.out.hr) 0 _ (fun j v h => by rw [Nat.zero_add]; exact h)
      · exact ⟨_, _, false, rfl, vno, B4.out⟩
    have g5 : ((ks.length : Int) == (e.tails.length : Int)) = true := beq_iff_eq.2 (by omega)
    have HKL := Lib.hid h5
    have HT4 : Hid (e.tails.length ≤ 4) := HOE.out.2.2.2.2.2
    have HM1 : Hid (1 ≤ most ∧ most ≤ 1000) := ⟨by omega, hmost1⟩
    clear h5
    go_enter Try.func56, Try.ntmps56
    go_wp2_with fail
    rw [← HW.out.1, ← HW4.out.1, ← HW4.out.2, ← HW.out.2.2.2, ← HW.out.2.2.1, ← HW.out.2.1]
    clear z0 z1 z2 z3 z4 u1 u2 u3 u4 u5 q0 q1 q2 q3 q4 q5 g5
    clear HW HW4
    go_loopg [11, 12, 13] ks.length (fun gj s11 s12 s13 wr => ∃ (j : Nat) (A11 : Option Addr) (c11 : Nat) (ys : List K.V) (left : Int), s11 = .slice A11 j c11 ∧ s12 = .int .i64 left ∧ s13 = .int .i64 j ∧ j ≤ ks.length ∧ ks.length - j ≤ gj ∧ Hid (Below W4.heap.size W4 wr ∧ Own wr W4.heap.size 54 2 A11 c11 encV ys ∧ YsTo v e.tails j ys ∧ -(1099511627776 * (j : Int)) ≤ left ∧ left ≤ 1000))
    case atStart => exact ⟨0, none, 0, [], most - 1, rfl, by go_num, rfl, by omega, by omega, Below.refl _ _, Own.nil _ _ _, ⟨rfl, fun q y h => by simp at h⟩, by have := HM1.out; omega, by have := HM1.out; omega⟩
    case round =>
      obtain ⟨j, A11, c11, ys, left, rfl, rfl, rfl, hj, hkj, HJ⟩ := hrel
      have SJ := Lib.hid (S4.out.bel HJ.out.1)
      have BJ : Hid (Below w.heap.size w wr) := B4.out.trans (HJ.out.1.mono B4.out.size)
      have d1 : wr.cell? ⟨db, 1, none⟩ = some (.slice kA ks.length kc) := by simp only [World.cell?, SJ.out.hd]; rfl
      by_cases hjt : j < ks.length
      · have hjz : (j : Int) < (ks.length : Int) := by omega
        obtain ⟨kid, hkid⟩ : ∃ k, ks[j]? = some k := ⟨_, List.getElem?_eq_getElem hjt⟩
        obtain ⟨⟨kb, ko, hkA, hkr⟩, hkt⟩ := HT.out j kid hkid
        obtain ⟨t, ht⟩ : ∃ t, e.tails[j]? = some t := ⟨_, List.getElem?_eq_getElem (by have := HKL.out; omega)⟩
        obtain ⟨tb, tof, hTA, ct⟩ := HTI.out.c BJ.out ht
        have htb := HOE.out.2.2.1 t (List.mem_of_getElem? ht)
        obtain ⟨tn, rfl⟩ : ∃ tn : Nat, t = tn := ⟨t.toNat, (Int.toNat_of_nonneg htb.1).symm⟩
        cases m with
        | zero => exact kid.elim
        | succ m' =>
        obtain ⟨ke2, kA2, kc2, ks2⟩ := kid
        have hkr2 : wr.rangeAt kb (ko + j * 2) [.int .i64 ke2, .slice kA2 ks2.length kc2] := fun q u hu => (BJ.out.cell (World.block_lt_of_cell? w _ (hkr q u hu))).trans (hkr q u hu)
        have CT : Hid (∀ W : World, Below wr.heap.size wr W → Calls Try.prog 56 #[.agg #[.int .i64 n, .slice (some ⟨b, o, none⟩) es.length cap], .int .i64 tn, .agg #[.int .i64 ke2, .slice kA2 ks2.length kc2], .int .i64 left] W (VPost W (VOk v tn))) := fun W hW => by
          have hbw : Below w.heap.size w W := BJ.out.trans (hW.mono BJ.out.size)
          exact IH.out (ke2, kA2, kc2, ks2) W (some ⟨b, o, none⟩) cap tn left (HA.out.below hbw) (TIn.below hbw _ _ hkt) (by omega) (by have h1 := HJ.out.2.2.2.1; have h2 := HT4.out; have h3 := HKL.out; omega) HJ.out.2.2.2.2
        have HRR : wr.rangeAt hb 0 [.int .i64 n, .slice (some ⟨b, o, none⟩) es.length cap] := box_range (L := [.int .i64 n, .slice (some ⟨b, o, none⟩) es.length cap]) (show wr.heap[hb]? = _ from SJ.out.hh) 0 _ (fun j v h => by rw [Nat.zero_add]; exact h)
        have x1 : wr.cell? ⟨xb, 1, none⟩ = some (.slice (some ⟨tb, tof, none⟩) ks.length e.cap) := by rw [HKL.out, ← hTA]; exact SJ.out.hx.c.2.1
        have HX := Lib.hid (And.intro HRR (And.intro x1 (And.intro ct (And.intro (show wr.cell? ⟨db, 1, none⟩ = some (.slice (some ⟨kb, ko, none⟩) ks.length kc) by rw [← hkA]; exact d1) hkr2))))
        have HTT := Lib.hid ht
        have HJT : Hid (j < ks.length) := hjt
        clear hkid hkA hkr hkt ht hTA ct htb hkr2 HRR x1
        go_wp2_with fail
        refine val_r11 (fun _ _ _ _ _ h => h) (by have := HJT.out; omega) HX.out.1 HX.out.2.1 HX.out.2.2.1 HX.out.2.2.2.1 HX.out.2.2.2.2 CT ?_
        rintro yb c s ok w8 b8 y8 hp
        intro t61 t62 t63 t64 t65 t66 t67 t68 t69 t70 t71 t72 t73 t74 t75 t76
        have S8 := Lib.hid (SJ.out.bel b8)
        have B8 : Hid (Below w.heap.size w w8) := BJ.out.trans (b8.mono BJ.out.size)
        have Y8 := Lib.hid y8
        have HP := Lib.hid hp
        have HB8 := Lib.hid b8
        have r2 : w8.cell? ⟨rb, 0, none⟩ = some (.int .i64 0) := by simp only [World.cell?, S8.out.hr]; rfl
        have r3 : w8.cell? ⟨rb, 1, none⟩ = some (.int .i64 0) := by simp only [World.cell?, S8.out.hr]; rfl
        have r4 : w8.frozen? ⟨rb, 0, none⟩ = false := frozen_blk S8.out.hr 0
        have r5 : w8.frozen? ⟨rb, 1, none⟩ = false := frozen_blk S8.out.hr 1
        clear b8 y8 hp d1 CT HX
        cases ok with
        | false =>
          go_wp2_with fail
          refine bodyPost_ret (res_ct (p := 8) (u := 9) rfl _ _ rb [.int .i64 0, .int .i64 0] (by rfl) ?_ Try.underlying54 rfl (by kernel_rfl)) rfl ?_
          · exact box_range (L := [.int .i64 0, .int .i64 0]) (set_cell (set_cell S8.out.hr 0 _) 1 _) 0 _ (fun j v h => by rw [Nat.zero_add]; exact h)
          · exact ⟨_, _, false, rfl, vno, (B8.out.setCell (p := ⟨rb, 0, none⟩) HG.out _).setCell (p := ⟨rb, 1, none⟩) HG.out _⟩
        | true =>
          obtain ⟨hyo, hyl⟩ := HP.out rfl
          obtain ⟨s1, s2, s3, s4⟩ := hyo
          have s3 : 0 ≤ s := s3
          have s4 : s ≤ 1099511627776 := s4
          have y0 : w8.cell? ⟨yb, 0, none⟩ = some (.int .i64 c) := by simp only [World.cell?, Y8.out]; rfl
          have y1 : w8.cell? ⟨yb, 1, none⟩ = some (.int .i64 s) := by simp only [World.cell?, Y8.out]; rfl
          have al : Below w8.heap.size w8 (w8.alloc (.cells #[.int .i64 c, .int .i64 s] 54)) := (Below.refl _ _).alloc (Nat.le_refl _) _
          have hl4 := HT4.out
          have hkl4 := HKL.out
          have hjt2 := HJT.out
          have hyl1 := HJ.out.2.2.1.1
          obtain ⟨A2, c2, W9, hap, hown, hb9, _⟩ := append_any (c2 := 1) kindV ((HJ.out.2.1.bel HB8.out).bel al) (Nat.le_trans HJ.out.1.size (Nat.le_trans HB8.out.size al.size)) (l2 := [(c, s)]) (sb := w8.heap.size) (so := 0) (fun q y hy => by
            have hq : q = 0 := by
              have := (List.getElem?_eq_some_iff.1 hy).1
              simpa using this
            subst hq
            cases hy
            refine ⟨_, _, rfl, ?_⟩
            exact box_range (L := encV (c, s)) (heap_alloc_new w8 _) 0 _ (fun j v h => by rw [Nat.zero_add]; exact h)) (by show ys.length + 1 ≤ _; omega)
          rw [hyl1] at hap
          have AP : Hid ((Builtin.append_ #[62, 62] 62 #[.slice A11 j c11, .slice (some ⟨w8.heap.size, 0, none⟩) 1 1]).run Try.prog (w8.alloc (.cells #[.int .i64 c, .int .i64 s] 54)) = .ok (.slice A2 (j + 1) c2) W9) := hap
          have HJ2 : Hid (Below W4.heap.size W4 W9 ∧ Own W9 W4.heap.size 54 2 A2 c2 encV (ys ++ [(c, s)]) ∧ YsTo v e.tails (j + 1) (ys ++ [(c, s)])) := ⟨((HJ.out.1.trans (HB8.out.mono HJ.out.1.size)).trans (al.mono (Nat.le_trans HJ.out.1.size HB8.out.size))).trans hb9, hown, HJ.out.2.2.1.next HTT.out ⟨s1, s2, s3, s4⟩ (by rw [Int.toNat_natCast]; exact hyl)⟩
          have hl0 := HJ.out.2.2.2.1
          have hl1 := HJ.out.2.2.2.2
          have HLB : Hid (-(1099511627776 * (j : Int)) ≤ left ∧ left ≤ 1000 ∧ 0 ≤ s ∧ s ≤ 1099511627776 ∧ j ≤ 3) := ⟨hl0, hl1, s3, s4, by omega⟩
          clear al hap hown hb9 hyl s1 s2 HP Y8 hl4 hkl4 hjt2 hyl1 hl0 hl1
          by_cases hs : s < 1
          · have hw1 : IntKind.i64.wrap (left - 1) = left - 1 := IntWalk.i64_in _ (by have := HLB.out; omega)
            have hj3 : j ≤ 3 := HLB.out.2.2.2.2
            go_wp2_with (first | (refine wpL_v (some 88) rfl rfl (exec_append rfl (by rfl) (by rfl) AP.out) ?_))
            go_roundg (ks.length - (j + 1))
            case measure =>
              have hb2 := HJT.out
              omega
            case rel =>
              have hb1 := HLB.out
              have hb2 := HJT.out
              exact ⟨j + 1, A2, c2, _, left - 1, rfl, rfl, by go_num, by omega, by omega, HJ2.out.1, HJ2.out.2.1, HJ2.out.2.2, by omega, by omega⟩
          by_cases hs1 : s = 1
          · subst hs1
            have hw1 : IntKind.i64.wrap (left - 1) = left - 1 := IntWalk.i64_in _ (by have := HLB.out; omega)
            have hj3 : j ≤ 3 := HLB.out.2.2.2.2
            go_wp2_with (first | (refine wpL_v (some 88) rfl rfl (exec_append rfl (by rfl) (by rfl) AP.out) ?_))
            go_roundg (ks.length - (j + 1))
            case measure =>
              have hb2 := HJT.out
              omega
            case rel =>
              have hb1 := HLB.out
              have hb2 := HJT.out
              exact ⟨j + 1, A2, c2, _, left - 1, rfl, rfl, by go_num, by omega, by omega, HJ2.out.1, HJ2.out.2.1, HJ2.out.2.2, by omega, by omega⟩
          have hs2 : 1 < s := by omega
          have hw1 : IntKind.i64.wrap (left - s) = left - s := IntWalk.i64_in _ (by have := HLB.out; omega)
          clear hs hs1
          have hj3 : j ≤ 3 := HLB.out.2.2.2.2
          go_wp2_with (first | (refine wpL_v (some 88) rfl rfl (exec_append rfl (by rfl) (by rfl) AP.out) ?_))
          go_roundg (ks.length - (j + 1))
          case measure =>
            have hb2 := HJT.out
            omega
          case rel =>
            have hb1 := HLB.out
            have hb2 := HJT.out
            exact ⟨j + 1, A2, c2, _, left - s, rfl, rfl, by go_num, by omega, by omega, HJ2.out.1, HJ2.out.2.1, HJ2.out.2.2, by omega, by omega⟩
      · have hjz : ¬ (j : Int) < (ks.length : Int) := by omega
        obtain rfl : ks.length = j := by omega
        have hyy := HJ.out.2.2.1
        rw [HKL.out] at hyy
        obtain ⟨hzo, hzl⟩ := hyy.le HOE.out HV.out.1
        have hle2 := HV.out.2 _ HPH.out.2
        rw [HPH.out.1] at hle2
        obtain ⟨z1, hz1⟩ : ∃ x, (K.combV e.cost ys).1 = x := ⟨_, rfl⟩
        obtain ⟨z2, hz2⟩ : ∃ x, (K.combV e.cost ys).2 = x := ⟨_, rfl⟩
        have hz : K.combV e.cost ys = (z1, z2) := Prod.ext hz1 hz2
        rw [hz] at hzo hzl
        have HPZ : Hid (VOk v hn' z1 z2 true) := fun _ => ⟨hzo, K.leV_trans hle2 hzl⟩
        have C48 := combine48 (cap := c11) e.cost ys (HJ.out.2.1.row kindV) HOE.out.2.2.2.1 HOE.out.2.2.2.2.1 (fun x hx => by
          obtain ⟨q, hq⟩ := List.getElem?_of_mem hx
          exact (hyy.2 q x hq).1) (by have := HJ.out.2.2.1.1; have := HT4.out; have := HKL.out; omega)
        rw [hz, HJ.out.2.2.1.1] at C48
        have CC : Hid (Calls Try.prog 48 #[.int .i64 e.cost, .slice A11 ks.length c11] wr fun r w' => r = .returned (.agg #[.int .i64 z1, .int .i64 z2]) ∧ Below wr.heap.size wr w') := C48
        have x2 := SJ.out.hx.c.2.2.1
        clear hyy hzo hzl hle2 hz1 hz2 hz C48
        go_wp2_with fail
        with_reducible refine CC.out.mono ?_
        rintro r w9 ⟨rfl, b9⟩
        have S9 := Lib.hid (SJ.out.bel b9)
        have B9 : Hid (Below w.heap.size w w9) := BJ.out.trans (b9.mono BJ.out.size)
        have r2 : w9.cell? ⟨rb, 0, none⟩ = some (.int .i64 0) := by simp only [World.cell?, S9.out.hr]; rfl
        have r3 : w9.cell? ⟨rb, 1, none⟩ = some (.int .i64 0) := by simp only [World.cell?, S9.out.hr]; rfl
        have r4 : w9.frozen? ⟨rb, 0, none⟩ = false := frozen_blk S9.out.hr 0
        have r5 : w9.frozen? ⟨rb, 1, none⟩ = false := frozen_blk S9.out.hr 1
        clear b9 CC x2 d1
        go_wp2_with fail
        refine bodyPost_ret (res_ct (p := 8) (u := 9) rfl _ _ rb [.int .i64 z1, .int .i64 z2] (by rfl) ?_ Try.underlying54 rfl (by kernel_rfl)) rfl ?_
        · exact box_range (L := [.int .i64 z1, .int .i64 z2]) (set_cell (set_cell S9.out.hr 0 _) 1 _) 0 _ (fun j v h => by rw [Nat.zero_add]; exact h)
        · exact ⟨_, _, true, rfl, HPZ.out, (B9.out.setCell (p := ⟨rb, 0, none⟩) HG.out _).setCell (p := ⟨rb, 1, none⟩) HG.out _⟩
end Go.Proofs.Ytepfbhigeghjjaa.Q
