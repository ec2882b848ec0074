/- Solve: what it makes. -/
import Derived.Test.YtepfbhigeghjjaaWf
import Derived.Test.YtepfbhigeghjjaaKH
import Derived.Test.YtepfbhigeghjjaaQR
namespace Go.Proofs.Ytepfbhigeghjjaa.Q
open Go.RowKit Go.Proofs.YtepfbhigeghjjaaW.PrintLast
set_option linter.unusedVariables false
set_option linter.unusedSimpArgs false

def oV (n : Nat) : Obj := .cells (madeCells #[.int .i64 0, .int .i64 0] (n * 2)) 54
def oB (n : Nat) : Obj := .cells (madeCells #[.bool false] n) 4
def oI (n : Nat) : Obj := .cells (madeCells #[.int .i64 0] n) 3
def oU (n : Nat) : Obj := .cells (madeCells #[.slice none 0 0] n) 22
theorem makeV (n : Nat) (hn : n ≤ 1000000000) (w : World) : (Instr.makeSlice 62 (.int .i64 (n : Int)) (.int .i64 (n : Int))).run Try.prog w = .ok (.slice (some ⟨w.heap.size, 0, none⟩) n n) (w.alloc (oV n)) := make54 n hn w
theorem makeB (n : Nat) (hn : n ≤ 1000000000) (w : World) : (Instr.makeSlice 30 (.int .i64 (n : Int)) (.int .i64 (n : Int))).run Try.prog w = .ok (.slice (some ⟨w.heap.size, 0, none⟩) n n) (w.alloc (oB n)) :=
  run_make_row' 30 4 (.bool false) 1 Try.underlying30 (by kernel_rfl) rfl .i64 .i64 n (by omega) (by omega) w
theorem makeI (n : Nat) (hn : n ≤ 1000000000) (w : World) : (Instr.makeSlice 22 (.int .i64 (n : Int)) (.int .i64 (n : Int))).run Try.prog w = .ok (.slice (some ⟨w.heap.size, 0, none⟩) n n) (w.alloc (oI n)) :=
  run_make_row' 22 3 (.int .i64 0) 8 Try.underlying22 (by kernel_rfl) rfl .i64 .i64 n (by omega) (by omega) w
theorem makeU (n : Nat) (hn : n ≤ 1000000000) (w : World) : (Instr.makeSlice 104 (.int .i64 (n : Int)) (.int .i64 (n : Int))).run Try.prog w = .ok (.slice (some ⟨w.heap.size, 0, none⟩) n n) (w.alloc (oU n)) :=
  run_make_row' 104 22 (.slice none 0 0) 24 Try.underlying104 (by kernel_rfl) rfl .i64 .i64 n (by omega) (by omega) w
theorem row_of {W : World} {b n : Nat} {z : Value} {t : TypeId} (h : W.heap[b]? = some (.cells (madeCells #[z] n) t (0, 0))) : W.rowIs b t n (fun _ => z) :=
  ⟨_, h, size_madeCells _ _, fun i hi => by simp [madeCells, hi, Nat.mod_one]⟩
theorem vals_of {W : World} {b n : Nat} (h : W.heap[b]? = some (oV n)) : ValsAt W b n (fun _ => (0, 0)) := by
  refine ⟨⟨_, h, size_madeCells _ _⟩, fun i hi j v hv => ?_⟩
  have hc : ∀ m, m < n * 2 → (madeCells #[Value.int .i64 0, Value.int .i64 0] (n * 2))[m]? = some (.int .i64 0) := by
    intro m hm
    simp only [madeCells, Array.getElem?_map, List.getElem?_toArray]
    rw [Array.getElem?_range, if_pos hm]
    have : m % 2 = 0 ∨ m % 2 = 1 := by omega
    rcases this with h | h <;> simp [h]
  have hj : j < 2 := (List.getElem?_eq_some_iff.1 hv).1
  have hvv : v = .int .i64 0 := by
    have : j = 0 ∨ j = 1 := by omega
    rcases this with rfl | rfl <;> (cases hv; rfl)
  subst hvv
  simp only [World.cell?, h, oV]
  exact hc _ (by omega)
theorem four_alloc (X : World) (a b c d : Obj) : ((((X.alloc a).alloc b).alloc c).alloc d).heap[X.heap.size]? = some a ∧ ((((X.alloc a).alloc b).alloc c).alloc d).heap[(X.alloc a).heap.size]? = some b ∧ ((((X.alloc a).alloc b).alloc c).alloc d).heap[((X.alloc a).alloc b).heap.size]? = some c ∧ ((((X.alloc a).alloc b).alloc c).alloc d).heap[(((X.alloc a).alloc b).alloc c).heap.size]? = some d ∧ Eff (fun _ => False) X ((((X.alloc a).alloc b).alloc c).alloc d) :=
  ⟨(eff_alloc _ d).heap ((eff_alloc _ c).heap ((eff_alloc _ b).heap (heap_alloc_new X a) (fun h => h)) (fun h => h)) (fun h => h),
    (eff_alloc _ d).heap ((eff_alloc _ c).heap (heap_alloc_new (X.alloc a) b) (fun h => h)) (fun h => h),
    (eff_alloc _ d).heap (heap_alloc_new ((X.alloc a).alloc b) c) (fun h => h), heap_alloc_new _ d,
    ((((Eff.refl _ X).alloc a).alloc b).alloc c).alloc d⟩
set_option maxHeartbeats 2000000 in
set_option maxRecDepth 100000 in
theorem solve_make {n m ecap hb : Nat} {A : Option Addr} {Q : Exit → Act → World → Prop} (hp : ∀ c (a : Act) (i : Nat) (v : Value) w, Q (.panic c) (a.put (some i) v) w → Q (.panic c) a w)
    {u0 u2 u3 u4 u5 u6 u7 u8 u9 u10 u11 u12 u13 u14 u15 u16 u17 u18 u19 u20 u21 u22 u23 u24 u25 u26 u27 u28 u29 u30 u31 u32 u33 u34 u35 u36 u37 u38 u39 u40 u41 u42 u43 u44 u45 u46 u47 u48 u49 u50 u51 u52 u53 u54 u55 u56 u57 u58 u59 u60 u61 u62 u63 u64 u65 u66 u67 u68 u69 u70 u71 u72 u73 u74 u75 u76 u77 u78 u79 u80 u81 u82 u83 u84 u85 u86 u87 u88 u89 u90 u91 u92 u93 u94 u95 u96 u97 u98 u99 u100 u101 u102 u103 u104 u105 u106 u107 u108 u109 u110 u111 u112 u113 u114 u115 u116 u117 u118 u119 u120 u121 u122 u123 u124 u125 u126 u127 u128 u129 u130 u131 u132 u133 u134 u135 u136 u137 u138 u139 u140 u141 u142 u143 u144 u145 u146 u147 u148 u149 u150 u151 u152 u153 u154 u155 u156 u157 u158 u159 u160 u161 u162 u163 u164 u165 u166 u167 u168 u169 u170 u171 u172 u173 u174 u175 u176 u177 u178 u179 u180 u181 u182 u183 u184 u185 u186 u187 u188 u189 u190 u191 u192 u193 u194 u195 u196 u197 : Value} {wr : World} (hn : n ≤ 1000000000) (hm : m ≤ 1000000000) (c0 : wr.cell? ⟨hb, 0, none⟩ = some (.int .i64 n)) (c1 : wr.cell? ⟨hb, 1, none⟩ = some (.slice A m ecap)) (X0 : wr.rangeAt hb 0 [.int .i64 n, .slice A m ecap])
    (hQ : ∀ (bv bs bo bu : Nat) (w1 : World), (w1.heap[bv]? = some (oV n) ∧ w1.heap[bs]? = some (oB n) ∧ w1.heap[bo]? = some (oI m) ∧ w1.heap[bu]? = some (oU n) ∧ Eff (fun _ => False) wr w1 ∧ (wr.heap.size ≤ bv ∧ wr.heap.size ≤ bs ∧ wr.heap.size ≤ bo ∧ wr.heap.size ≤ bu)) → ∀ (t17 t18 t19 t20 t21 t22 t23 t24 t25 t26 t27 t28 t29 t30 t31 t32 : Value), Q .normal { tmps := #[u0, .pointer (some ⟨hb, 0, none⟩), u2, u3, .pointer (some ⟨w1.heap.size, 0, none⟩), u5, u6, u7, u8, u9, u10, u11, u12, u13, u14, u15, u16, t17, t18, t19, t20, t21, t22, t23, t24, t25, t26, t27, t28, t29, t30, t31, t32, u33, u34, u35, u36, u37, u38, u39, u40, u41, u42, u43, u44, u45, u46, u47, u48, u49, u50, u51, u52, u53, u54, u55, u56, u57, u58, u59, u60, u61, u62, u63, u64, u65, u66, u67, u68, u69, u70, u71, u72, u73, u74, u75, u76, u77, u78, u79, u80, u81, u82, u83, u84, u85, u86, u87, u88, u89, u90, u91, u92, u93, u94, u95, u96, u97, u98, u99, u100, u101, u102, u103, u104, u105, u106, u107, u108, u109, u110, u111, u112, u113, u114, u115, u116, u117, u118, u119, u120, u121, u122, u123, u124, u125, u126, u127, u128, u129, u130, u131, u132, u133, u134, u135, u136, u137, u138, u139, u140, u141, u142, u143, u144, u145, u146, u147, u148, u149, u150, u151, u152, u153, u154, u155, u156, u157, u158, u159, u160, u161, u162, u163, u164, u165, u166, u167, u168, u169, u170, u171, u172, u173, u174, u175, u176, u177, u178, u179, u180, u181, u182, u183, u184, u185, u186, u187, u188, u189, u190, u191, u192, u193, u194, u195, u196, u197], defers := [] } (w1.alloc (.cells #[.int .i64 n, .slice A m ecap, .slice (some ⟨bv, 0, none⟩) n n, .slice (some ⟨bs, 0, none⟩) n n, .slice (some ⟨bo, 0, none⟩) m m, .slice (some ⟨bu, 0, none⟩) n n, .pointer none] 107))) :
    Code.wp Try.prog (reg (Try.f50) 1) Q { tmps := #[u0, .pointer (some ⟨hb, 0, none⟩), u2, u3, u4, u5, u6, u7, u8, u9, u10, u11, u12, u13, u14, u15, u16, u17, u18, u19, u20, u21, u22, u23, u24, u25, u26, u27, u28, u29, u30, u31, u32, u33, u34, u35, u36, u37, u38, u39, u40, u41, u42, u43, u44, u45, u46, u47, u48, u49, u50, u51, u52, u53, u54, u55, u56, u57, u58, u59, u60, u61, u62, u63, u64, u65, u66, u67, u68, u69, u70, u71, u72, u73, u74, u75, u76, u77, u78, u79, u80, u81, u82, u83, u84, u85, u86, u87, u88, u89, u90, u91, u92, u93, u94, u95, u96, u97, u98, u99, u100, u101, u102, u103, u104, u105, u106, u107, u108, u109, u110, u111, u112, u113, u114, u115, u116, u117, u118, u119, u120, u121, u122, u123, u124, u125, u126, u127, u128, u129, u130, u131, u132, u133, u134, u135, u136, u137, u138, u139, u140, u141, u142, u143, u144, u145, u146, u147, u148, u149, u150, u151, u152, u153, u154, u155, u156, u157, u158, u159, u160, u161, u162, u163, u164, u165, u166, u167, u168, u169, u170, u171, u172, u173, u174, u175, u176, u177, u178, u179, u180, u181, u182, u183, u184, u185, u186, u187, u188, u189, u190, u191, u192, u193, u194, u195, u196, u197], defers := [] } wr := by
  have HQ := Lib.hid hQ
  have HP := Lib.hid hp
  clear hQ hp
  refine start_ (n := 17) (S := fun w' => w'.cell? ⟨hb, 0, none⟩ = some (.int .i64 n) ∧ w'.cell? ⟨hb, 1, none⟩ = some (.slice A m ecap) ∧ w'.rangeAt hb 0 [.int .i64 n, .slice A m ecap]) (ds := [15]) #[false, false, false, false, false, false, false, false, false, false, false, false, false, false, false, false, false] (by kernel_rfl) rfl rfl ⟨c0, c1, X0⟩ (fun hHeld => ?_)
  refine pure_ (i := 1) (N := some 18) (v := ?_) (a' := ?_) #[false, true, false, false, false, false, false, false, false, false, false, false, false, false, false, false, false] rfl rfl (by kernel_rfl) (fun c a w h => HP.out c a _ _ w h) (Or.inl ⟨by rfl, ?_⟩) ?_ ?_
  rotate_left
  · intro w'
    go_simp
    with_reducible rfl
  rotate_left
  · simp only [Act.put, List.setIfInBounds_toArray, List.set_cons_zero, List.set_cons_succ, i64_w, i32_w]
    rfl
  refine pure_ (i := 4) (N := some 21) (v := ?_) (a' := ?_) #[false, true, false, false, true, false, false, false, false, false, false, false, false, false, false, false, false] rfl rfl (by kernel_rfl) (fun c a w h => HP.out c a _ _ w h) (Or.inl ⟨by rfl, ?_⟩) ?_ ?_
  rotate_left
  · intro w'
    go_simp
    with_reducible rfl
  rotate_left
  · simp only [Act.put, List.setIfInBounds_toArray, List.set_cons_zero, List.set_cons_succ, i64_w, i32_w]
    rfl
  refine pure_ (i := 7) (N := some 24) (v := ?_) (a' := ?_) #[false, true, false, false, true, false, false, true, false, false, false, false, false, false, false, false, false] rfl rfl (by kernel_rfl) (fun c a w h => HP.out c a _ _ w h) (Or.inl ⟨by rfl, ?_⟩) ?_ ?_
  rotate_left
  · intro w'
    go_simp
    with_reducible rfl
  rotate_left
  · simp only [Act.put, List.setIfInBounds_toArray, List.set_cons_zero, List.set_cons_succ, i64_w, i32_w]
    rfl
  refine pure_ (i := 11) (N := some 28) (v := ?_) (a' := ?_) #[false, true, false, false, true, false, false, true, false, false, false, true, false, false, false, false, false] rfl rfl (by kernel_rfl) (fun c a w h => HP.out c a _ _ w h) (Or.inl ⟨by rfl, ?_⟩) ?_ ?_
  rotate_left
  · intro w'
    go_simp
    with_reducible rfl
  rotate_left
  · simp only [Act.put, List.setIfInBounds_toArray, List.set_cons_zero, List.set_cons_succ, i64_w, i32_w]
    rfl
  refine take_ (i := 0) (N := some 17) (a' := ?_) #[true, true, false, false, true, false, false, true, false, false, false, true, false, false, false, false, false] rfl rfl (by kernel_rfl) (fun c a w h => HP.out c a _ _ w h) (yieldsIf_load_mid (by rfl) 48 _ rfl hb 0 (by rfl) [.int .i64 n, .slice A m ecap] _ (fun w' h => h.2.2) Try.underlying48 rfl (by kernel_rfl)) hHeld ?_ ?_
  rotate_left
  · simp only [Act.put, List.setIfInBounds_toArray, List.set_cons_zero, List.set_cons_succ, i64_w, i32_w]
    rfl
  refine take_ (i := 2) (N := some 19) (v := ?_) (a' := ?_) #[true, true, true, false, true, false, false, true, false, false, false, true, false, false, false, false, false] rfl rfl (by kernel_rfl) (fun c a w h => HP.out c a _ _ w h) (Or.inl ⟨by rfl, ?_⟩) hHeld ?_ ?_
  rotate_left
  · rintro w' ⟨s0, s1, s2⟩
    go_simp
    with_reducible rfl
  rotate_left
  · simp only [Act.put, List.setIfInBounds_toArray, List.set_cons_zero, List.set_cons_succ, i64_w, i32_w]
    rfl
  refine take_ (i := 5) (N := some 22) (v := ?_) (a' := ?_) #[true, true, true, false, true, true, false, true, false, false, false, true, false, false, false, false, false] rfl rfl (by kernel_rfl) (fun c a w h => HP.out c a _ _ w h) (Or.inl ⟨by rfl, ?_⟩) hHeld ?_ ?_
  rotate_left
  · rintro w' ⟨s0, s1, s2⟩
    go_simp
    with_reducible rfl
  rotate_left
  · simp only [Act.put, List.setIfInBounds_toArray, List.set_cons_zero, List.set_cons_succ, i64_w, i32_w]
    rfl
  refine take_ (i := 8) (N := some 25) (v := ?_) (a' := ?_) #[true, true, true, false, true, true, false, true, true, false, false, true, false, false, false, false, false] rfl rfl (by kernel_rfl) (fun c a w h => HP.out c a _ _ w h) (Or.inl ⟨by rfl, ?_⟩) hHeld ?_ ?_
  rotate_left
  · rintro w' ⟨s0, s1, s2⟩
    go_simp
    with_reducible rfl
  rotate_left
  · simp only [Act.put, List.setIfInBounds_toArray, List.set_cons_zero, List.set_cons_succ, i64_w, i32_w]
    rfl
  refine pure_ (i := 9) (N := some 26) (v := ?_) (a' := ?_) #[true, true, true, false, true, true, false, true, true, true, false, true, false, false, false, false, false] rfl rfl (by kernel_rfl) (fun c a w h => HP.out c a _ _ w h) (Or.inl ⟨by rfl, ?_⟩) ?_ ?_
  rotate_left
  · intro w'
    go_simp
    with_reducible rfl
  rotate_left
  · simp only [Act.put, List.setIfInBounds_toArray, List.set_cons_zero, List.set_cons_succ, i64_w, i32_w]
    rfl
  refine take_ (i := 12) (N := some 29) (v := ?_) (a' := ?_) #[true, true, true, false, true, true, false, true, true, true, false, true, true, false, false, false, false] rfl rfl (by kernel_rfl) (fun c a w h => HP.out c a _ _ w h) (Or.inl ⟨by rfl, ?_⟩) hHeld ?_ ?_
  rotate_left
  · rintro w' ⟨s0, s1, s2⟩
    go_simp
    with_reducible rfl
  rotate_left
  · simp only [Act.put, List.setIfInBounds_toArray, List.set_cons_zero, List.set_cons_succ, i64_w, i32_w]
    rfl
  refine join_ (σ := Nat × Nat × Nat × Nat) 3 #[true, true, true, true, true, true, true, true, true, true, true, true, true, true, false, false, false] (fun s => [(20, .slice (some ⟨s.1, 0, none⟩) n n), (23, .slice (some ⟨s.2.1, 0, none⟩) n n), (27, .slice (some ⟨s.2.2.1, 0, none⟩) m m), (30, .slice (some ⟨s.2.2.2, 0, none⟩) n n)]) (fun s w' => w'.heap[s.1]? = some (oV n) ∧ w'.heap[s.2.1]? = some (oB n) ∧ w'.heap[s.2.2.1]? = some (oI m) ∧ w'.heap[s.2.2.2]? = some (oU n) ∧ Eff (fun _ => False) wr w' ∧ (wr.heap.size ≤ s.1 ∧ wr.heap.size ≤ s.2.1 ∧ wr.heap.size ≤ s.2.2.1 ∧ wr.heap.size ≤ s.2.2.2) ∧ (w'.cell? ⟨hb, 0, none⟩ = some (.int .i64 n) ∧ w'.cell? ⟨hb, 1, none⟩ = some (.slice A m ecap) ∧ w'.rangeAt hb 0 [.int .i64 n, .slice A m ecap])) ?_ ?_
  rotate_left
  · intro hCont
    refine four_ (i := 3) (j := 6) (k := 10) (m := 13) (Ni := some 20) (Nj := some 23) (Nk := some 27) (Nm := some 30) #[true, true, true, true, true, true, false, true, true, true, false, true, true, false, false, false, false] #[true, true, true, false, true, true, true, true, true, true, false, true, true, false, false, false, false] #[true, true, true, false, true, true, false, true, true, true, true, true, true, false, false, false, false] #[true, true, true, false, true, true, false, true, true, true, false, true, true, true, false, false, false] rfl rfl rfl rfl rfl rfl rfl rfl (by kernel_rfl) (by decide) (by decide) (by decide) (by decide) (fun K hK => ?_) (fun K hK => ?_) (fun K hK => ?_) (fun K hK => ?_)
    · skip
      refine value_ (w1 := _) (v := _) (by rfl) rfl (run_v (makeV n hn _)) ?_
      refine hK.out _ _ ⟨((eff_alloc _ _).cell hHeld.1 (fun h => h)), ((eff_alloc _ _).cell hHeld.2.1 (fun h => h)), (rangeAt_eff hHeld.2.2 (eff_alloc _ _) (fun h => h))⟩ (fun hHeld => ?_)
      clear hK K
      refine norm_ (a' := ?_) ?_ ?_
      rotate_left
      · show Act.put _ (some 20) _ = _
        simp only [Act.put, List.setIfInBounds_toArray, List.set_cons_zero, List.set_cons_succ, i64_w, i32_w]
        rfl
      refine three_ (i := 6) (j := 10) (k := 13) (Ni := some 23) (Nj := some 27) (Nk := some 30) #[true, true, true, true, true, true, true, true, true, true, false, true, true, false, false, false, false] #[true, true, true, true, true, true, false, true, true, true, true, true, true, false, false, false, false] #[true, true, true, true, true, true, false, true, true, true, false, true, true, true, false, false, false] rfl rfl rfl rfl rfl rfl (by kernel_rfl) (by decide) (by decide) (by decide) (fun K hK => ?_) (fun K hK => ?_) (fun K hK => ?_)
      · skip
        refine value_ (w1 := _) (v := _) (by rfl) rfl (run_v (makeB n hn _)) ?_
        refine hK.out _ _ ⟨((eff_alloc _ _).cell hHeld.1 (fun h => h)), ((eff_alloc _ _).cell hHeld.2.1 (fun h => h)), (rangeAt_eff hHeld.2.2 (eff_alloc _ _) (fun h => h))⟩ (fun hHeld => ?_)
        clear hK K
        refine norm_ (a' := ?_) ?_ ?_
        rotate_left
        · show Act.put _ (some 23) _ = _
          simp only [Act.put, List.setIfInBounds_toArray, List.set_cons_zero, List.set_cons_succ, i64_w, i32_w]
          rfl
        refine two_ (i := 10) (j := 13) (Ni := some 27) (Nj := some 30) #[true, true, true, true, true, true, true, true, true, true, true, true, true, false, false, false, false] #[true, true, true, true, true, true, true, true, true, true, false, true, true, true, false, false, false] rfl rfl rfl rfl (by kernel_rfl) (by decide) (by decide) (fun K hK => ?_) (fun K hK => ?_)
        · skip
          refine value_ (w1 := _) (v := _) (by rfl) rfl (run_v (makeI m hm _)) ?_
          refine hK.out _ _ ⟨((eff_alloc _ _).cell hHeld.1 (fun h => h)), ((eff_alloc _ _).cell hHeld.2.1 (fun h => h)), (rangeAt_eff hHeld.2.2 (eff_alloc _ _) (fun h => h))⟩ (fun hHeld => ?_)
          clear hK K
          refine norm_ (a' := ?_) ?_ ?_
          rotate_left
          · show Act.put _ (some 27) _ = _
            simp only [Act.put, List.setIfInBounds_toArray, List.set_cons_zero, List.set_cons_succ, i64_w, i32_w]
            rfl
          refine one_ (i := 13) (N := some 30) #[true, true, true, true, true, true, true, true, true, true, true, true, true, true, false, false, false] rfl rfl (by kernel_rfl) (by decide) (fun K hK => ?_)
          refine value_ (w1 := _) (v := _) (by rfl) rfl (run_v (makeU n hn _)) ?_
          refine hK.out _ _ ⟨((eff_alloc _ _).cell hHeld.1 (fun h => h)), ((eff_alloc _ _).cell hHeld.2.1 (fun h => h)), (rangeAt_eff hHeld.2.2 (eff_alloc _ _) (fun h => h))⟩ (fun hHeld => ?_)
          clear hK K
          refine norm_ (a' := ?_) ?_ ?_
          rotate_left
          · show Act.put _ (some 30) _ = _
            simp only [Act.put, List.setIfInBounds_toArray, List.set_cons_zero, List.set_cons_succ, i64_w, i32_w]
            rfl
          exact norm_ (by simp only [putAll, Act.put, List.setIfInBounds_toArray, List.set_cons_zero, List.set_cons_succ]) (hCont (wr.drew.heap.size, (wr.drew.alloc (oV n)).heap.size, ((wr.drew.alloc (oV n)).alloc (oB n)).heap.size, (((wr.drew.alloc (oV n)).alloc (oB n)).alloc (oI m)).heap.size) _ ⟨(four_alloc wr.drew (oV n) (oB n) (oI m) (oU n)).1, (four_alloc wr.drew (oV n) (oB n) (oI m) (oU n)).2.1, (four_alloc wr.drew (oV n) (oB n) (oI m) (oU n)).2.2.1, (four_alloc wr.drew (oV n) (oB n) (oI m) (oU n)).2.2.2.1, ((Eff.refl _ wr).drew.trans (four_alloc wr.drew (oV n) (oB n) (oI m) (oU n)).2.2.2.2 (fun _ h => .inl h)), ⟨(by simp; try omega), (by simp; try omega), (by simp; try omega), (by simp; try omega)⟩, hHeld⟩)
        · skip
          refine value_ (w1 := _) (v := _) (by rfl) rfl (run_v (makeU n hn _)) ?_
          refine hK.out _ _ ⟨((eff_alloc _ _).cell hHeld.1 (fun h => h)), ((eff_alloc _ _).cell hHeld.2.1 (fun h => h)), (rangeAt_eff hHeld.2.2 (eff_alloc _ _) (fun h => h))⟩ (fun hHeld => ?_)
          clear hK K
          refine norm_ (a' := ?_) ?_ ?_
          rotate_left
          · show Act.put _ (some 30) _ = _
            simp only [Act.put, List.setIfInBounds_toArray, List.set_cons_zero, List.set_cons_succ, i64_w, i32_w]
            rfl
          refine one_ (i := 10) (N := some 27) #[true, true, true, true, true, true, true, true, true, true, true, true, true, true, false, false, false] rfl rfl (by kernel_rfl) (by decide) (fun K hK => ?_)
          refine value_ (w1 := _) (v := _) (by rfl) rfl (run_v (makeI m hm _)) ?_
          refine hK.out _ _ ⟨((eff_alloc _ _).cell hHeld.1 (fun h => h)), ((eff_alloc _ _).cell hHeld.2.1 (fun h => h)), (rangeAt_eff hHeld.2.2 (eff_alloc _ _) (fun h => h))⟩ (fun hHeld => ?_)
          clear hK K
          refine norm_ (a' := ?_) ?_ ?_
          rotate_left
          · show Act.put _ (some 27) _ = _
            simp only [Act.put, List.setIfInBounds_toArray, List.set_cons_zero, List.set_cons_succ, i64_w, i32_w]
            rfl
          exact norm_ (by simp only [putAll, Act.put, List.setIfInBounds_toArray, List.set_cons_zero, List.set_cons_succ]) (hCont (wr.drew.heap.size, (wr.drew.alloc (oV n)).heap.size, (((wr.drew.alloc (oV n)).alloc (oB n)).alloc (oU n)).heap.size, ((wr.drew.alloc (oV n)).alloc (oB n)).heap.size) _ ⟨(four_alloc wr.drew (oV n) (oB n) (oU n) (oI m)).1, (four_alloc wr.drew (oV n) (oB n) (oU n) (oI m)).2.1, (four_alloc wr.drew (oV n) (oB n) (oU n) (oI m)).2.2.2.1, (four_alloc wr.drew (oV n) (oB n) (oU n) (oI m)).2.2.1, ((Eff.refl _ wr).drew.trans (four_alloc wr.drew (oV n) (oB n) (oU n) (oI m)).2.2.2.2 (fun _ h => .inl h)), ⟨(by simp; try omega), (by simp; try omega), (by simp; try omega), (by simp; try omega)⟩, hHeld⟩)
      · skip
        refine value_ (w1 := _) (v := _) (by rfl) rfl (run_v (makeI m hm _)) ?_
        refine hK.out _ _ ⟨((eff_alloc _ _).cell hHeld.1 (fun h => h)), ((eff_alloc _ _).cell hHeld.2.1 (fun h => h)), (rangeAt_eff hHeld.2.2 (eff_alloc _ _) (fun h => h))⟩ (fun hHeld => ?_)
        clear hK K
        refine norm_ (a' := ?_) ?_ ?_
        rotate_left
        · show Act.put _ (some 27) _ = _
          simp only [Act.put, List.setIfInBounds_toArray, List.set_cons_zero, List.set_cons_succ, i64_w, i32_w]
          rfl
        refine two_ (i := 6) (j := 13) (Ni := some 23) (Nj := some 30) #[true, true, true, true, true, true, true, true, true, true, true, true, true, false, false, false, false] #[true, true, true, true, true, true, false, true, true, true, true, true, true, true, false, false, false] rfl rfl rfl rfl (by kernel_rfl) (by decide) (by decide) (fun K hK => ?_) (fun K hK => ?_)
        · skip
          refine value_ (w1 := _) (v := _) (by rfl) rfl (run_v (makeB n hn _)) ?_
          refine hK.out _ _ ⟨((eff_alloc _ _).cell hHeld.1 (fun h => h)), ((eff_alloc _ _).cell hHeld.2.1 (fun h => h)), (rangeAt_eff hHeld.2.2 (eff_alloc _ _) (fun h => h))⟩ (fun hHeld => ?_)
          clear hK K
          refine norm_ (a' := ?_) ?_ ?_
          rotate_left
          · show Act.put _ (some 23) _ = _
            simp only [Act.put, List.setIfInBounds_toArray, List.set_cons_zero, List.set_cons_succ, i64_w, i32_w]
            rfl
          refine one_ (i := 13) (N := some 30) #[true, true, true, true, true, true, true, true, true, true, true, true, true, true, false, false, false] rfl rfl (by kernel_rfl) (by decide) (fun K hK => ?_)
          refine value_ (w1 := _) (v := _) (by rfl) rfl (run_v (makeU n hn _)) ?_
          refine hK.out _ _ ⟨((eff_alloc _ _).cell hHeld.1 (fun h => h)), ((eff_alloc _ _).cell hHeld.2.1 (fun h => h)), (rangeAt_eff hHeld.2.2 (eff_alloc _ _) (fun h => h))⟩ (fun hHeld => ?_)
          clear hK K
          refine norm_ (a' := ?_) ?_ ?_
          rotate_left
          · show Act.put _ (some 30) _ = _
            simp only [Act.put, List.setIfInBounds_toArray, List.set_cons_zero, List.set_cons_succ, i64_w, i32_w]
            rfl
          exact norm_ (by simp only [putAll, Act.put, List.setIfInBounds_toArray, List.set_cons_zero, List.set_cons_succ]) (hCont (wr.drew.heap.size, ((wr.drew.alloc (oV n)).alloc (oI m)).heap.size, (wr.drew.alloc (oV n)).heap.size, (((wr.drew.alloc (oV n)).alloc (oI m)).alloc (oB n)).heap.size) _ ⟨(four_alloc wr.drew (oV n) (oI m) (oB n) (oU n)).1, (four_alloc wr.drew (oV n) (oI m) (oB n) (oU n)).2.2.1, (four_alloc wr.drew (oV n) (oI m) (oB n) (oU n)).2.1, (four_alloc wr.drew (oV n) (oI m) (oB n) (oU n)).2.2.2.1, ((Eff.refl _ wr).drew.trans (four_alloc wr.drew (oV n) (oI m) (oB n) (oU n)).2.2.2.2 (fun _ h => .inl h)), ⟨(by simp; try omega), (by simp; try omega), (by simp; try omega), (by simp; try omega)⟩, hHeld⟩)
        · skip
          refine value_ (w1 := _) (v := _) (by rfl) rfl (run_v (makeU n hn _)) ?_
          refine hK.out _ _ ⟨((eff_alloc _ _).cell hHeld.1 (fun h => h)), ((eff_alloc _ _).cell hHeld.2.1 (fun h => h)), (rangeAt_eff hHeld.2.2 (eff_alloc _ _) (fun h => h))⟩ (fun hHeld => ?_)
          clear hK K
          refine norm_ (a' := ?_) ?_ ?_
          rotate_left
          · show Act.put _ (some 30) _ = _
            simp only [Act.put, List.setIfInBounds_toArray, List.set_cons_zero, List.set_cons_succ, i64_w, i32_w]
            rfl
          refine one_ (i := 6) (N := some 23) #[true, true, true, true, true, true, true, true, true, true, true, true, true, true, false, false, false] rfl rfl (by kernel_rfl) (by decide) (fun K hK => ?_)
          refine value_ (w1 := _) (v := _) (by rfl) rfl (run_v (makeB n hn _)) ?_
          refine hK.out _ _ ⟨((eff_alloc _ _).cell hHeld.1 (fun h => h)), ((eff_alloc _ _).cell hHeld.2.1 (fun h => h)), (rangeAt_eff hHeld.2.2 (eff_alloc _ _) (fun h => h))⟩ (fun hHeld => ?_)
          clear hK K
          refine norm_ (a' := ?_) ?_ ?_
          rotate_left
          · show Act.put _ (some 23) _ = _
            simp only [Act.put, List.setIfInBounds_toArray, List.set_cons_zero, List.set_cons_succ, i64_w, i32_w]
            rfl
          exact norm_ (by simp only [putAll, Act.put, List.setIfInBounds_toArray, List.set_cons_zero, List.set_cons_succ]) (hCont (wr.drew.heap.size, (((wr.drew.alloc (oV n)).alloc (oI m)).alloc (oU n)).heap.size, (wr.drew.alloc (oV n)).heap.size, ((wr.drew.alloc (oV n)).alloc (oI m)).heap.size) _ ⟨(four_alloc wr.drew (oV n) (oI m) (oU n) (oB n)).1, (four_alloc wr.drew (oV n) (oI m) (oU n) (oB n)).2.2.2.1, (four_alloc wr.drew (oV n) (oI m) (oU n) (oB n)).2.1, (four_alloc wr.drew (oV n) (oI m) (oU n) (oB n)).2.2.1, ((Eff.refl _ wr).drew.trans (four_alloc wr.drew (oV n) (oI m) (oU n) (oB n)).2.2.2.2 (fun _ h => .inl h)), ⟨(by simp; try omega), (by simp; try omega), (by simp; try omega), (by simp; try omega)⟩, hHeld⟩)
      · skip
        refine value_ (w1 := _) (v := _) (by rfl) rfl (run_v (makeU n hn _)) ?_
        refine hK.out _ _ ⟨((eff_alloc _ _).cell hHeld.1 (fun h => h)), ((eff_alloc _ _).cell hHeld.2.1 (fun h => h)), (rangeAt_eff hHeld.2.2 (eff_alloc _ _) (fun h => h))⟩ (fun hHeld => ?_)
        clear hK K
        refine norm_ (a' := ?_) ?_ ?_
        rotate_left
        · show Act.put _ (some 30) _ = _
          simp only [Act.put, List.setIfInBounds_toArray, List.set_cons_zero, List.set_cons_succ, i64_w, i32_w]
          rfl
        refine two_ (i := 6) (j := 10) (Ni := some 23) (Nj := some 27) #[true, true, true, true, true, true, true, true, true, true, false, true, true, true, false, false, false] #[true, true, true, true, true, true, false, true, true, true, true, true, true, true, false, false, false] rfl rfl rfl rfl (by kernel_rfl) (by decide) (by decide) (fun K hK => ?_) (fun K hK => ?_)
        · skip
          refine value_ (w1 := _) (v := _) (by rfl) rfl (run_v (makeB n hn _)) ?_
          refine hK.out _ _ ⟨((eff_alloc _ _).cell hHeld.1 (fun h => h)), ((eff_alloc _ _).cell hHeld.2.1 (fun h => h)), (rangeAt_eff hHeld.2.2 (eff_alloc _ _) (fun h => h))⟩ (fun hHeld => ?_)
          clear hK K
          refine norm_ (a' := ?_) ?_ ?_
          rotate_left
          · show Act.put _ (some 23) _ = _
            simp only [Act.put, List.setIfInBounds_toArray, List.set_cons_zero, List.set_cons_succ, i64_w, i32_w]
            rfl
          refine one_ (i := 10) (N := some 27) #[true, true, true, true, true, true, true, true, true, true, true, true, true, true, false, false, false] rfl rfl (by kernel_rfl) (by decide) (fun K hK => ?_)
          refine value_ (w1 := _) (v := _) (by rfl) rfl (run_v (makeI m hm _)) ?_
          refine hK.out _ _ ⟨((eff_alloc _ _).cell hHeld.1 (fun h => h)), ((eff_alloc _ _).cell hHeld.2.1 (fun h => h)), (rangeAt_eff hHeld.2.2 (eff_alloc _ _) (fun h => h))⟩ (fun hHeld => ?_)
          clear hK K
          refine norm_ (a' := ?_) ?_ ?_
          rotate_left
          · show Act.put _ (some 27) _ = _
            simp only [Act.put, List.setIfInBounds_toArray, List.set_cons_zero, List.set_cons_succ, i64_w, i32_w]
            rfl
          exact norm_ (by simp only [putAll, Act.put, List.setIfInBounds_toArray, List.set_cons_zero, List.set_cons_succ]) (hCont (wr.drew.heap.size, ((wr.drew.alloc (oV n)).alloc (oU n)).heap.size, (((wr.drew.alloc (oV n)).alloc (oU n)).alloc (oB n)).heap.size, (wr.drew.alloc (oV n)).heap.size) _ ⟨(four_alloc wr.drew (oV n) (oU n) (oB n) (oI m)).1, (four_alloc wr.drew (oV n) (oU n) (oB n) (oI m)).2.2.1, (four_alloc wr.drew (oV n) (oU n) (oB n) (oI m)).2.2.2.1, (four_alloc wr.drew (oV n) (oU n) (oB n) (oI m)).2.1, ((Eff.refl _ wr).drew.trans (four_alloc wr.drew (oV n) (oU n) (oB n) (oI m)).2.2.2.2 (fun _ h => .inl h)), ⟨(by simp; try omega), (by simp; try omega), (by simp; try omega), (by simp; try omega)⟩, hHeld⟩)
        · skip
          refine value_ (w1 := _) (v := _) (by rfl) rfl (run_v (makeI m hm _)) ?_
          refine hK.out _ _ ⟨((eff_alloc _ _).cell hHeld.1 (fun h => h)), ((eff_alloc _ _).cell hHeld.2.1 (fun h => h)), (rangeAt_eff hHeld.2.2 (eff_alloc _ _) (fun h => h))⟩ (fun hHeld => ?_)
          clear hK K
          refine norm_ (a' := ?_) ?_ ?_
          rotate_left
          · show Act.put _ (some 27) _ = _
            simp only [Act.put, List.setIfInBounds_toArray, List.set_cons_zero, List.set_cons_succ, i64_w, i32_w]
            rfl
          refine one_ (i := 6) (N := some 23) #[true, true, true, true, true, true, true, true, true, true, true, true, true, true, false, false, false] rfl rfl (by kernel_rfl) (by decide) (fun K hK => ?_)
          refine value_ (w1 := _) (v := _) (by rfl) rfl (run_v (makeB n hn _)) ?_
          refine hK.out _ _ ⟨((eff_alloc _ _).cell hHeld.1 (fun h => h)), ((eff_alloc _ _).cell hHeld.2.1 (fun h => h)), (rangeAt_eff hHeld.2.2 (eff_alloc _ _) (fun h => h))⟩ (fun hHeld => ?_)
          clear hK K
          refine norm_ (a' := ?_) ?_ ?_
          rotate_left
          · show Act.put _ (some 23) _ = _
            simp only [Act.put, List.setIfInBounds_toArray, List.set_cons_zero, List.set_cons_succ, i64_w, i32_w]
            rfl
          exact norm_ (by simp only [putAll, Act.put, List.setIfInBounds_toArray, List.set_cons_zero, List.set_cons_succ]) (hCont (wr.drew.heap.size, (((wr.drew.alloc (oV n)).alloc (oU n)).alloc (oI m)).heap.size, ((wr.drew.alloc (oV n)).alloc (oU n)).heap.size, (wr.drew.alloc (oV n)).heap.size) _ ⟨(four_alloc wr.drew (oV n) (oU n) (oI m) (oB n)).1, (four_alloc wr.drew (oV n) (oU n) (oI m) (oB n)).2.2.2.1, (four_alloc wr.drew (oV n) (oU n) (oI m) (oB n)).2.2.1, (four_alloc wr.drew (oV n) (oU n) (oI m) (oB n)).2.1, ((Eff.refl _ wr).drew.trans (four_alloc wr.drew (oV n) (oU n) (oI m) (oB n)).2.2.2.2 (fun _ h => .inl h)), ⟨(by simp; try omega), (by simp; try omega), (by simp; try omega), (by simp; try omega)⟩, hHeld⟩)
    · skip
      refine value_ (w1 := _) (v := _) (by rfl) rfl (run_v (makeB n hn _)) ?_
      refine hK.out _ _ ⟨((eff_alloc _ _).cell hHeld.1 (fun h => h)), ((eff_alloc _ _).cell hHeld.2.1 (fun h => h)), (rangeAt_eff hHeld.2.2 (eff_alloc _ _) (fun h => h))⟩ (fun hHeld => ?_)
      clear hK K
      refine norm_ (a' := ?_) ?_ ?_
      rotate_left
      · show Act.put _ (some 23) _ = _
        simp only [Act.put, List.setIfInBounds_toArray, List.set_cons_zero, List.set_cons_succ, i64_w, i32_w]
        rfl
      refine three_ (i := 3) (j := 10) (k := 13) (Ni := some 20) (Nj := some 27) (Nk := some 30) #[true, true, true, true, true, true, true, true, true, true, false, true, true, false, false, false, false] #[true, true, true, false, true, true, true, true, true, true, true, true, true, false, false, false, false] #[true, true, true, false, true, true, true, true, true, true, false, true, true, true, false, false, false] rfl rfl rfl rfl rfl rfl (by kernel_rfl) (by decide) (by decide) (by decide) (fun K hK => ?_) (fun K hK => ?_) (fun K hK => ?_)
      · skip
        refine value_ (w1 := _) (v := _) (by rfl) rfl (run_v (makeV n hn _)) ?_
        refine hK.out _ _ ⟨((eff_alloc _ _).cell hHeld.1 (fun h => h)), ((eff_alloc _ _).cell hHeld.2.1 (fun h => h)), (rangeAt_eff hHeld.2.2 (eff_alloc _ _) (fun h => h))⟩ (fun hHeld => ?_)
        clear hK K
        refine norm_ (a' := ?_) ?_ ?_
        rotate_left
        · show Act.put _ (some 20) _ = _
          simp only [Act.put, List.setIfInBounds_toArray, List.set_cons_zero, List.set_cons_succ, i64_w, i32_w]
          rfl
        refine two_ (i := 10) (j := 13) (Ni := some 27) (Nj := some 30) #[true, true, true, true, true, true, true, true, true, true, true, true, true, false, false, false, false] #[true, true, true, true, true, true, true, true, true, true, false, true, true, true, false, false, false] rfl rfl rfl rfl (by kernel_rfl) (by decide) (by decide) (fun K hK => ?_) (fun K hK => ?_)
        · skip
          refine value_ (w1 := _) (v := _) (by rfl) rfl (run_v (makeI m hm _)) ?_
          refine hK.out _ _ ⟨((eff_alloc _ _).cell hHeld.1 (fun h => h)), ((eff_alloc _ _).cell hHeld.2.1 (fun h => h)), (rangeAt_eff hHeld.2.2 (eff_alloc _ _) (fun h => h))⟩ (fun hHeld => ?_)
          clear hK K
          refine norm_ (a' := ?_) ?_ ?_
          rotate_left
          · show Act.put _ (some 27) _ = _
            simp only [Act.put, List.setIfInBounds_toArray, List.set_cons_zero, List.set_cons_succ, i64_w, i32_w]
            rfl
          refine one_ (i := 13) (N := some 30) #[true, true, true, true, true, true, true, true, true, true, true, true, true, true, false, false, false] rfl rfl (by kernel_rfl) (by decide) (fun K hK => ?_)
          refine value_ (w1 := _) (v := _) (by rfl) rfl (run_v (makeU n hn _)) ?_
          refine hK.out _ _ ⟨((eff_alloc _ _).cell hHeld.1 (fun h => h)), ((eff_alloc _ _).cell hHeld.2.1 (fun h => h)), (rangeAt_eff hHeld.2.2 (eff_alloc _ _) (fun h => h))⟩ (fun hHeld => ?_)
          clear hK K
          refine norm_ (a' := ?_) ?_ ?_
          rotate_left
          · show Act.put _ (some 30) _ = _
            simp only [Act.put, List.setIfInBounds_toArray, List.set_cons_zero, List.set_cons_succ, i64_w, i32_w]
            rfl
          exact norm_ (by simp only [putAll, Act.put, List.setIfInBounds_toArray, List.set_cons_zero, List.set_cons_succ]) (hCont ((wr.drew.alloc (oB n)).heap.size, wr.drew.heap.size, ((wr.drew.alloc (oB n)).alloc (oV n)).heap.size, (((wr.drew.alloc (oB n)).alloc (oV n)).alloc (oI m)).heap.size) _ ⟨(four_alloc wr.drew (oB n) (oV n) (oI m) (oU n)).2.1, (four_alloc wr.drew (oB n) (oV n) (oI m) (oU n)).1, (four_alloc wr.drew (oB n) (oV n) (oI m) (oU n)).2.2.1, (four_alloc wr.drew (oB n) (oV n) (oI m) (oU n)).2.2.2.1, ((Eff.refl _ wr).drew.trans (four_alloc wr.drew (oB n) (oV n) (oI m) (oU n)).2.2.2.2 (fun _ h => .inl h)), ⟨(by simp; try omega), (by simp; try omega), (by simp; try omega), (by simp; try omega)⟩, hHeld⟩)
        · skip
          refine value_ (w1 := _) (v := _) (by rfl) rfl (run_v (makeU n hn _)) ?_
          refine hK.out _ _ ⟨((eff_alloc _ _).cell hHeld.1 (fun h => h)), ((eff_alloc _ _).cell hHeld.2.1 (fun h => h)), (rangeAt_eff hHeld.2.2 (eff_alloc _ _) (fun h => h))⟩ (fun hHeld => ?_)
          clear hK K
          refine norm_ (a' := ?_) ?_ ?_
          rotate_left
          · show Act.put _ (some 30) _ = _
            simp only [Act.put, List.setIfInBounds_toArray, List.set_cons_zero, List.set_cons_succ, i64_w, i32_w]
            rfl
          refine one_ (i := 10) (N := some 27) #[true, true, true, true, true, true, true, true, true, true, true, true, true, true, false, false, false] rfl rfl (by kernel_rfl) (by decide) (fun K hK => ?_)
          refine value_ (w1 := _) (v := _) (by rfl) rfl (run_v (makeI m hm _)) ?_
          refine hK.out _ _ ⟨((eff_alloc _ _).cell hHeld.1 (fun h => h)), ((eff_alloc _ _).cell hHeld.2.1 (fun h => h)), (rangeAt_eff hHeld.2.2 (eff_alloc _ _) (fun h => h))⟩ (fun hHeld => ?_)
          clear hK K
          refine norm_ (a' := ?_) ?_ ?_
          rotate_left
          · show Act.put _ (some 27) _ = _
            simp only [Act.put, List.setIfInBounds_toArray, List.set_cons_zero, List.set_cons_succ, i64_w, i32_w]
            rfl
          exact norm_ (by simp only [putAll, Act.put, List.setIfInBounds_toArray, List.set_cons_zero, List.set_cons_succ]) (hCont ((wr.drew.alloc (oB n)).heap.size, wr.drew.heap.size, (((wr.drew.alloc (oB n)).alloc (oV n)).alloc (oU n)).heap.size, ((wr.drew.alloc (oB n)).alloc (oV n)).heap.size) _ ⟨(four_alloc wr.drew (oB n) (oV n) (oU n) (oI m)).2.1, (four_alloc wr.drew (oB n) (oV n) (oU n) (oI m)).1, (four_alloc wr.drew (oB n) (oV n) (oU n) (oI m)).2.2.2.1, (four_alloc wr.drew (oB n) (oV n) (oU n) (oI m)).2.2.1, ((Eff.refl _ wr).drew.trans (four_alloc wr.drew (oB n) (oV n) (oU n) (oI m)).2.2.2.2 (fun _ h => .inl h)), ⟨(by simp; try omega), (by simp; try omega), (by simp; try omega), (by simp; try omega)⟩, hHeld⟩)
      · skip
        refine value_ (w1 := _) (v := _) (by rfl) rfl (run_v (makeI m hm _)) ?_
        refine hK.out _ _ ⟨((eff_alloc _ _).cell hHeld.1 (fun h => h)), ((eff_alloc _ _).cell hHeld.2.1 (fun h => h)), (rangeAt_eff hHeld.2.2 (eff_alloc _ _) (fun h => h))⟩ (fun hHeld => ?_)
        clear hK K
        refine norm_ (a' := ?_) ?_ ?_
        rotate_left
        · show Act.put _ (some 27) _ = _
          simp only [Act.put, List.setIfInBounds_toArray, List.set_cons_zero, List.set_cons_succ, i64_w, i32_w]
          rfl
        refine two_ (i := 3) (j := 13) (Ni := some 20) (Nj := some 30) #[true, true, true, true, true, true, true, true, true, true, true, true, true, false, false, false, false] #[true, true, true, false, true, true, true, true, true, true, true, true, true, true, false, false, false] rfl rfl rfl rfl (by kernel_rfl) (by decide) (by decide) (fun K hK => ?_) (fun K hK => ?_)
        · skip
          refine value_ (w1 := _) (v := _) (by rfl) rfl (run_v (makeV n hn _)) ?_
          refine hK.out _ _ ⟨((eff_alloc _ _).cell hHeld.1 (fun h => h)), ((eff_alloc _ _).cell hHeld.2.1 (fun h => h)), (rangeAt_eff hHeld.2.2 (eff_alloc _ _) (fun h => h))⟩ (fun hHeld => ?_)
          clear hK K
          refine norm_ (a' := ?_) ?_ ?_
          rotate_left
          · show Act.put _ (some 20) _ = _
            simp only [Act.put, List.setIfInBounds_toArray, List.set_cons_zero, List.set_cons_succ, i64_w, i32_w]
            rfl
          refine one_ (i := 13) (N := some 30) #[true, true, true, true, true, true, true, true, true, true, true, true, true, true, false, false, false] rfl rfl (by kernel_rfl) (by decide) (fun K hK => ?_)
          refine value_ (w1 := _) (v := _) (by rfl) rfl (run_v (makeU n hn _)) ?_
          refine hK.out _ _ ⟨((eff_alloc _ _).cell hHeld.1 (fun h => h)), ((eff_alloc _ _).cell hHeld.2.1 (fun h => h)), (rangeAt_eff hHeld.2.2 (eff_alloc _ _) (fun h => h))⟩ (fun hHeld => ?_)
          clear hK K
          refine norm_ (a' := ?_) ?_ ?_
          rotate_left
          · show Act.put _ (some 30) _ = _
            simp only [Act.put, List.setIfInBounds_toArray, List.set_cons_zero, List.set_cons_succ, i64_w, i32_w]
            rfl
          exact norm_ (by simp only [putAll, Act.put, List.setIfInBounds_toArray, List.set_cons_zero, List.set_cons_succ]) (hCont (((wr.drew.alloc (oB n)).alloc (oI m)).heap.size, wr.drew.heap.size, (wr.drew.alloc (oB n)).heap.size, (((wr.drew.alloc (oB n)).alloc (oI m)).alloc (oV n)).heap.size) _ ⟨(four_alloc wr.drew (oB n) (oI m) (oV n) (oU n)).2.2.1, (four_alloc wr.drew (oB n) (oI m) (oV n) (oU n)).1, (four_alloc wr.drew (oB n) (oI m) (oV n) (oU n)).2.1, (four_alloc wr.drew (oB n) (oI m) (oV n) (oU n)).2.2.2.1, ((Eff.refl _ wr).drew.trans (four_alloc wr.drew (oB n) (oI m) (oV n) (oU n)).2.2.2.2 (fun _ h => .inl h)), ⟨(by simp; try omega), (by simp; try omega), (by simp; try omega), (by simp; try omega)⟩, hHeld⟩)
        · skip
          refine value_ (w1 := _) (v := _) (by rfl) rfl (run_v (makeU n hn _)) ?_
          refine hK.out _ _ ⟨((eff_alloc _ _).cell hHeld.1 (fun h => h)), ((eff_alloc _ _).cell hHeld.2.1 (fun h => h)), (rangeAt_eff hHeld.2.2 (eff_alloc _ _) (fun h => h))⟩ (fun hHeld => ?_)
          clear hK K
          refine norm_ (a' := ?_) ?_ ?_
          rotate_left
          · show Act.put _ (some 30) _ = _
            simp only [Act.put, List.setIfInBounds_toArray, List.set_cons_zero, List.set_cons_succ, i64_w, i32_w]
            rfl
          refine one_ (i := 3) (N := some 20) #[true, true, true, true, true, true, true, true, true, true, true, true, true, true, false, false, false] rfl rfl (by kernel_rfl) (by decide) (fun K hK => ?_)
          refine value_ (w1 := _) (v := _) (by rfl) rfl (run_v (makeV n hn _)) ?_
          refine hK.out _ _ ⟨((eff_alloc _ _).cell hHeld.1 (fun h => h)), ((eff_alloc _ _).cell hHeld.2.1 (fun h => h)), (rangeAt_eff hHeld.2.2 (eff_alloc _ _) (fun h => h))⟩ (fun hHeld => ?_)
          clear hK K
          refine norm_ (a' := ?_) ?_ ?_
          rotate_left
          · show Act.put _ (some 20) _ = _
            simp only [Act.put, List.setIfInBounds_toArray, List.set_cons_zero, List.set_cons_succ, i64_w, i32_w]
            rfl
          exact norm_ (by simp only [putAll, Act.put, List.setIfInBounds_toArray, List.set_cons_zero, List.set_cons_succ]) (hCont ((((wr.drew.alloc (oB n)).alloc (oI m)).alloc (oU n)).heap.size, wr.drew.heap.size, (wr.drew.alloc (oB n)).heap.size, ((wr.drew.alloc (oB n)).alloc (oI m)).heap.size) _ ⟨(four_alloc wr.drew (oB n) (oI m) (oU n) (oV n)).2.2.2.1, (four_alloc wr.drew (oB n) (oI m) (oU n) (oV n)).1, (four_alloc wr.drew (oB n) (oI m) (oU n) (oV n)).2.1, (four_alloc wr.drew (oB n) (oI m) (oU n) (oV n)).2.2.1, ((Eff.refl _ wr).drew.trans (four_alloc wr.drew (oB n) (oI m) (oU n) (oV n)).2.2.2.2 (fun _ h => .inl h)), ⟨(by simp; try omega), (by simp; try omega), (by simp; try omega), (by simp; try omega)⟩, hHeld⟩)
      · skip
        refine value_ (w1 := _) (v := _) (by rfl) rfl (run_v (makeU n hn _)) ?_
        refine hK.out _ _ ⟨((eff_alloc _ _).cell hHeld.1 (fun h => h)), ((eff_alloc _ _).cell hHeld.2.1 (fun h => h)), (rangeAt_eff hHeld.2.2 (eff_alloc _ _) (fun h => h))⟩ (fun hHeld => ?_)
        clear hK K
        refine norm_ (a' := ?_) ?_ ?_
        rotate_left
        · show Act.put _ (some 30) _ = _
          simp only [Act.put, List.setIfInBounds_toArray, List.set_cons_zero, List.set_cons_succ, i64_w, i32_w]
          rfl
        refine two_ (i := 3) (j := 10) (Ni := some 20) (Nj := some 27) #[true, true, true, true, true, true, true, true, true, true, false, true, true, true, false, false, false] #[true, true, true, false, true, true, true, true, true, true, true, true, true, true, false, false, false] rfl rfl rfl rfl (by kernel_rfl) (by decide) (by decide) (fun K hK => ?_) (fun K hK => ?_)
        · skip
          refine value_ (w1 := _) (v := _) (by rfl) rfl (run_v (makeV n hn _)) ?_
          refine hK.out _ _ ⟨((eff_alloc _ _).cell hHeld.1 (fun h => h)), ((eff_alloc _ _).cell hHeld.2.1 (fun h => h)), (rangeAt_eff hHeld.2.2 (eff_alloc _ _) (fun h => h))⟩ (fun hHeld => ?_)
          clear hK K
          refine norm_ (a' := ?_) ?_ ?_
          rotate_left
          · show Act.put _ (some 20) _ = _
            simp only [Act.put, List.setIfInBounds_toArray, List.set_cons_zero, List.set_cons_succ, i64_w, i32_w]
            rfl
          refine one_ (i := 10) (N := some 27) #[true, true, true, true, true, true, true, true, true, true, true, true, true, true, false, false, false] rfl rfl (by kernel_rfl) (by decide) (fun K hK => ?_)
          refine value_ (w1 := _) (v := _) (by rfl) rfl (run_v (makeI m hm _)) ?_
          refine hK.out _ _ ⟨((eff_alloc _ _).cell hHeld.1 (fun h => h)), ((eff_alloc _ _).cell hHeld.2.1 (fun h => h)), (rangeAt_eff hHeld.2.2 (eff_alloc _ _) (fun h => h))⟩ (fun hHeld => ?_)
          clear hK K
          refine norm_ (a' := ?_) ?_ ?_
          rotate_left
          · show Act.put _ (some 27) _ = _
            simp only [Act.put, List.setIfInBounds_toArray, List.set_cons_zero, List.set_cons_succ, i64_w, i32_w]
            rfl
          exact norm_ (by simp only [putAll, Act.put, List.setIfInBounds_toArray, List.set_cons_zero, List.set_cons_succ]) (hCont (((wr.drew.alloc (oB n)).alloc (oU n)).heap.size, wr.drew.heap.size, (((wr.drew.alloc (oB n)).alloc (oU n)).alloc (oV n)).heap.size, (wr.drew.alloc (oB n)).heap.size) _ ⟨(four_alloc wr.drew (oB n) (oU n) (oV n) (oI m)).2.2.1, (four_alloc wr.drew (oB n) (oU n) (oV n) (oI m)).1, (four_alloc wr.drew (oB n) (oU n) (oV n) (oI m)).2.2.2.1, (four_alloc wr.drew (oB n) (oU n) (oV n) (oI m)).2.1, ((Eff.refl _ wr).drew.trans (four_alloc wr.drew (oB n) (oU n) (oV n) (oI m)).2.2.2.2 (fun _ h => .inl h)), ⟨(by simp; try omega), (by simp; try omega), (by simp; try omega), (by simp; try omega)⟩, hHeld⟩)
        · skip
          refine value_ (w1 := _) (v := _) (by rfl) rfl (run_v (makeI m hm _)) ?_
          refine hK.out _ _ ⟨((eff_alloc _ _).cell hHeld.1 (fun h => h)), ((eff_alloc _ _).cell hHeld.2.1 (fun h => h)), (rangeAt_eff hHeld.2.2 (eff_alloc _ _) (fun h => h))⟩ (fun hHeld => ?_)
          clear hK K
          refine norm_ (a' := ?_) ?_ ?_
          rotate_left
          · show Act.put _ (some 27) _ = _
            simp only [Act.put, List.setIfInBounds_toArray, List.set_cons_zero, List.set_cons_succ, i64_w, i32_w]
            rfl
          refine one_ (i := 3) (N := some 20) #[true, true, true, true, true, true, true, true, true, true, true, true, true, true, false, false, false] rfl rfl (by kernel_rfl) (by decide) (fun K hK => ?_)
          refine value_ (w1 := _) (v := _) (by rfl) rfl (run_v (makeV n hn _)) ?_
          refine hK.out _ _ ⟨((eff_alloc _ _).cell hHeld.1 (fun h => h)), ((eff_alloc _ _).cell hHeld.2.1 (fun h => h)), (rangeAt_eff hHeld.2.2 (eff_alloc _ _) (fun h => h))⟩ (fun hHeld => ?_)
          clear hK K
          refine norm_ (a' := ?_) ?_ ?_
          rotate_left
          · show Act.put _ (some 20) _ = _
            simp only [Act.put, List.setIfInBounds_toArray, List.set_cons_zero, List.set_cons_succ, i64_w, i32_w]
            rfl
          exact norm_ (by simp only [putAll, Act.put, List.setIfInBounds_toArray, List.set_cons_zero, List.set_cons_succ]) (hCont ((((wr.drew.alloc (oB n)).alloc (oU n)).alloc (oI m)).heap.size, wr.drew.heap.size, ((wr.drew.alloc (oB n)).alloc (oU n)).heap.size, (wr.drew.alloc (oB n)).heap.size) _ ⟨(four_alloc wr.drew (oB n) (oU n) (oI m) (oV n)).2.2.2.1, (four_alloc wr.drew (oB n) (oU n) (oI m) (oV n)).1, (four_alloc wr.drew (oB n) (oU n) (oI m) (oV n)).2.2.1, (four_alloc wr.drew (oB n) (oU n) (oI m) (oV n)).2.1, ((Eff.refl _ wr).drew.trans (four_alloc wr.drew (oB n) (oU n) (oI m) (oV n)).2.2.2.2 (fun _ h => .inl h)), ⟨(by simp; try omega), (by simp; try omega), (by simp; try omega), (by simp; try omega)⟩, hHeld⟩)
    · skip
      refine value_ (w1 := _) (v := _) (by rfl) rfl (run_v (makeI m hm _)) ?_
      refine hK.out _ _ ⟨((eff_alloc _ _).cell hHeld.1 (fun h => h)), ((eff_alloc _ _).cell hHeld.2.1 (fun h => h)), (rangeAt_eff hHeld.2.2 (eff_alloc _ _) (fun h => h))⟩ (fun hHeld => ?_)
      clear hK K
      refine norm_ (a' := ?_) ?_ ?_
      rotate_left
      · show Act.put _ (some 27) _ = _
        simp only [Act.put, List.setIfInBounds_toArray, List.set_cons_zero, List.set_cons_succ, i64_w, i32_w]
        rfl
      refine three_ (i := 3) (j := 6) (k := 13) (Ni := some 20) (Nj := some 23) (Nk := some 30) #[true, true, true, true, true, true, false, true, true, true, true, true, true, false, false, false, false] #[true, true, true, false, true, true, true, true, true, true, true, true, true, false, false, false, false] #[true, true, true, false, true, true, false, true, true, true, true, true, true, true, false, false, false] rfl rfl rfl rfl rfl rfl (by kernel_rfl) (by decide) (by decide) (by decide) (fun K hK => ?_) (fun K hK => ?_) (fun K hK => ?_)
      · skip
        refine value_ (w1 := _) (v := _) (by rfl) rfl (run_v (makeV n hn _)) ?_
        refine hK.out _ _ ⟨((eff_alloc _ _).cell hHeld.1 (fun h => h)), ((eff_alloc _ _).cell hHeld.2.1 (fun h => h)), (rangeAt_eff hHeld.2.2 (eff_alloc _ _) (fun h => h))⟩ (fun hHeld => ?_)
        clear hK K
        refine norm_ (a' := ?_) ?_ ?_
        rotate_left
        · show Act.put _ (some 20) _ = _
          simp only [Act.put, List.setIfInBounds_toArray, List.set_cons_zero, List.set_cons_succ, i64_w, i32_w]
          rfl
        refine two_ (i := 6) (j := 13) (Ni := some 23) (Nj := some 30) #[true, true, true, true, true, true, true, true, true, true, true, true, true, false, false, false, false] #[true, true, true, true, true, true, false, true, true, true, true, true, true, true, false, false, false] rfl rfl rfl rfl (by kernel_rfl) (by decide) (by decide) (fun K hK => ?_) (fun K hK => ?_)
        · skip
          refine value_ (w1 := _) (v := _) (by rfl) rfl (run_v (makeB n hn _)) ?_
          refine hK.out _ _ ⟨((eff_alloc _ _).cell hHeld.1 (fun h => h)), ((eff_alloc _ _).cell hHeld.2.1 (fun h => h)), (rangeAt_eff hHeld.2.2 (eff_alloc _ _) (fun h => h))⟩ (fun hHeld => ?_)
          clear hK K
          refine norm_ (a' := ?_) ?_ ?_
          rotate_left
          · show Act.put _ (some 23) _ = _
            simp only [Act.put, List.setIfInBounds_toArray, List.set_cons_zero, List.set_cons_succ, i64_w, i32_w]
            rfl
          refine one_ (i := 13) (N := some 30) #[true, true, true, true, true, true, true, true, true, true, true, true, true, true, false, false, false] rfl rfl (by kernel_rfl) (by decide) (fun K hK => ?_)
          refine value_ (w1 := _) (v := _) (by rfl) rfl (run_v (makeU n hn _)) ?_
          refine hK.out _ _ ⟨((eff_alloc _ _).cell hHeld.1 (fun h => h)), ((eff_alloc _ _).cell hHeld.2.1 (fun h => h)), (rangeAt_eff hHeld.2.2 (eff_alloc _ _) (fun h => h))⟩ (fun hHeld => ?_)
          clear hK K
          refine norm_ (a' := ?_) ?_ ?_
          rotate_left
          · show Act.put _ (some 30) _ = _
            simp only [Act.put, List.setIfInBounds_toArray, List.set_cons_zero, List.set_cons_succ, i64_w, i32_w]
            rfl
          exact norm_ (by simp only [putAll, Act.put, List.setIfInBounds_toArray, List.set_cons_zero, List.set_cons_succ]) (hCont ((wr.drew.alloc (oI m)).heap.size, ((wr.drew.alloc (oI m)).alloc (oV n)).heap.size, wr.drew.heap.size, (((wr.drew.alloc (oI m)).alloc (oV n)).alloc (oB n)).heap.size) _ ⟨(four_alloc wr.drew (oI m) (oV n) (oB n) (oU n)).2.1, (four_alloc wr.drew (oI m) (oV n) (oB n) (oU n)).2.2.1, (four_alloc wr.drew (oI m) (oV n) (oB n) (oU n)).1, (four_alloc wr.drew (oI m) (oV n) (oB n) (oU n)).2.2.2.1, ((Eff.refl _ wr).drew.trans (four_alloc wr.drew (oI m) (oV n) (oB n) (oU n)).2.2.2.2 (fun _ h => .inl h)), ⟨(by simp; try omega), (by simp; try omega), (by simp; try omega), (by simp; try omega)⟩, hHeld⟩)
        · skip
          refine value_ (w1 := _) (v := _) (by rfl) rfl (run_v (makeU n hn _)) ?_
          refine hK.out _ _ ⟨((eff_alloc _ _).cell hHeld.1 (fun h => h)), ((eff_alloc _ _).cell hHeld.2.1 (fun h => h)), (rangeAt_eff hHeld.2.2 (eff_alloc _ _) (fun h => h))⟩ (fun hHeld => ?_)
          clear hK K
          refine norm_ (a' := ?_) ?_ ?_
          rotate_left
          · show Act.put _ (some 30) _ = _
            simp only [Act.put, List.setIfInBounds_toArray, List.set_cons_zero, List.set_cons_succ, i64_w, i32_w]
            rfl
          refine one_ (i := 6) (N := some 23) #[true, true, true, true, true, true, true, true, true, true, true, true, true, true, false, false, false] rfl rfl (by kernel_rfl) (by decide) (fun K hK => ?_)
          refine value_ (w1 := _) (v := _) (by rfl) rfl (run_v (makeB n hn _)) ?_
          refine hK.out _ _ ⟨((eff_alloc _ _).cell hHeld.1 (fun h => h)), ((eff_alloc _ _).cell hHeld.2.1 (fun h => h)), (rangeAt_eff hHeld.2.2 (eff_alloc _ _) (fun h => h))⟩ (fun hHeld => ?_)
          clear hK K
          refine norm_ (a' := ?_) ?_ ?_
          rotate_left
          · show Act.put _ (some 23) _ = _
            simp only [Act.put, List.setIfInBounds_toArray, List.set_cons_zero, List.set_cons_succ, i64_w, i32_w]
            rfl
          exact norm_ (by simp only [putAll, Act.put, List.setIfInBounds_toArray, List.set_cons_zero, List.set_cons_succ]) (hCont ((wr.drew.alloc (oI m)).heap.size, (((wr.drew.alloc (oI m)).alloc (oV n)).alloc (oU n)).heap.size, wr.drew.heap.size, ((wr.drew.alloc (oI m)).alloc (oV n)).heap.size) _ ⟨(four_alloc wr.drew (oI m) (oV n) (oU n) (oB n)).2.1, (four_alloc wr.drew (oI m) (oV n) (oU n) (oB n)).2.2.2.1, (four_alloc wr.drew (oI m) (oV n) (oU n) (oB n)).1, (four_alloc wr.drew (oI m) (oV n) (oU n) (oB n)).2.2.1, ((Eff.refl _ wr).drew.trans (four_alloc wr.drew (oI m) (oV n) (oU n) (oB n)).2.2.2.2 (fun _ h => .inl h)), ⟨(by simp; try omega), (by simp; try omega), (by simp; try omega), (by simp; try omega)⟩, hHeld⟩)
      · skip
        refine value_ (w1 := _) (v := _) (by rfl) rfl (run_v (makeB n hn _)) ?_
        refine hK.out _ _ ⟨((eff_alloc _ _).cell hHeld.1 (fun h => h)), ((eff_alloc _ _).cell hHeld.2.1 (fun h => h)), (rangeAt_eff hHeld.2.2 (eff_alloc _ _) (fun h => h))⟩ (fun hHeld => ?_)
        clear hK K
        refine norm_ (a' := ?_) ?_ ?_
        rotate_left
        · show Act.put _ (some 23) _ = _
          simp only [Act.put, List.setIfInBounds_toArray, List.set_cons_zero, List.set_cons_succ, i64_w, i32_w]
          rfl
        refine two_ (i := 3) (j := 13) (Ni := some 20) (Nj := some 30) #[true, true, true, true, true, true, true, true, true, true, true, true, true, false, false, false, false] #[true, true, true, false, true, true, true, true, true, true, true, true, true, true, false, false, false] rfl rfl rfl rfl (by kernel_rfl) (by decide) (by decide) (fun K hK => ?_) (fun K hK => ?_)
        · skip
          refine value_ (w1 := _) (v := _) (by rfl) rfl (run_v (makeV n hn _)) ?_
          refine hK.out _ _ ⟨((eff_alloc _ _).cell hHeld.1 (fun h => h)), ((eff_alloc _ _).cell hHeld.2.1 (fun h => h)), (rangeAt_eff hHeld.2.2 (eff_alloc _ _) (fun h => h))⟩ (fun hHeld => ?_)
          clear hK K
          refine norm_ (a' := ?_) ?_ ?_
          rotate_left
          · show Act.put _ (some 20) _ = _
            simp only [Act.put, List.setIfInBounds_toArray, List.set_cons_zero, List.set_cons_succ, i64_w, i32_w]
            rfl
          refine one_ (i := 13) (N := some 30) #[true, true, true, true, true, true, true, true, true, true, true, true, true, true, false, false, false] rfl rfl (by kernel_rfl) (by decide) (fun K hK => ?_)
          refine value_ (w1 := _) (v := _) (by rfl) rfl (run_v (makeU n hn _)) ?_
          refine hK.out _ _ ⟨((eff_alloc _ _).cell hHeld.1 (fun h => h)), ((eff_alloc _ _).cell hHeld.2.1 (fun h => h)), (rangeAt_eff hHeld.2.2 (eff_alloc _ _) (fun h => h))⟩ (fun hHeld => ?_)
          clear hK K
          refine norm_ (a' := ?_) ?_ ?_
          rotate_left
          · show Act.put _ (some 30) _ = _
            simp only [Act.put, List.setIfInBounds_toArray, List.set_cons_zero, List.set_cons_succ, i64_w, i32_w]
            rfl
          exact norm_ (by simp only [putAll, Act.put, List.setIfInBounds_toArray, List.set_cons_zero, List.set_cons_succ]) (hCont (((wr.drew.alloc (oI m)).alloc (oB n)).heap.size, (wr.drew.alloc (oI m)).heap.size, wr.drew.heap.size, (((wr.drew.alloc (oI m)).alloc (oB n)).alloc (oV n)).heap.size) _ ⟨(four_alloc wr.drew (oI m) (oB n) (oV n) (oU n)).2.2.1, (four_alloc wr.drew (oI m) (oB n) (oV n) (oU n)).2.1, (four_alloc wr.drew (oI m) (oB n) (oV n) (oU n)).1, (four_alloc wr.drew (oI m) (oB n) (oV n) (oU n)).2.2.2.1, ((Eff.refl _ wr).drew.trans (four_alloc wr.drew (oI m) (oB n) (oV n) (oU n)).2.2.2.2 (fun _ h => .inl h)), ⟨(by simp; try omega), (by simp; try omega), (by simp; try omega), (by simp; try omega)⟩, hHeld⟩)
        · skip
          refine value_ (w1 := _) (v := _) (by rfl) rfl (run_v (makeU n hn _)) ?_
          refine hK.out _ _ ⟨((eff_alloc _ _).cell hHeld.1 (fun h => h)), ((eff_alloc _ _).cell hHeld.2.1 (fun h => h)), (rangeAt_eff hHeld.2.2 (eff_alloc _ _) (fun h => h))⟩ (fun hHeld => ?_)
          clear hK K
          refine norm_ (a' := ?_) ?_ ?_
          rotate_left
          · show Act.put _ (some 30) _ = _
            simp only [Act.put, List.setIfInBounds_toArray, List.set_cons_zero, List.set_cons_succ, i64_w, i32_w]
            rfl
          refine one_ (i := 3) (N := some 20) #[true, true, true, true, true, true, true, true, true, true, true, true, true, true, false, false, false] rfl rfl (by kernel_rfl) (by decide) (fun K hK => ?_)
          refine value_ (w1 := _) (v := _) (by rfl) rfl (run_v (makeV n hn _)) ?_
          refine hK.out _ _ ⟨((eff_alloc _ _).cell hHeld.1 (fun h => h)), ((eff_alloc _ _).cell hHeld.2.1 (fun h => h)), (rangeAt_eff hHeld.2.2 (eff_alloc _ _) (fun h => h))⟩ (fun hHeld => ?_)
          clear hK K
          refine norm_ (a' := ?_) ?_ ?_
          rotate_left
          · show Act.put _ (some 20) _ = _
            simp only [Act.put, List.setIfInBounds_toArray, List.set_cons_zero, List.set_cons_succ, i64_w, i32_w]
            rfl
          exact norm_ (by simp only [putAll, Act.put, List.setIfInBounds_toArray, List.set_cons_zero, List.set_cons_succ]) (hCont ((((wr.drew.alloc (oI m)).alloc (oB n)).alloc (oU n)).heap.size, (wr.drew.alloc (oI m)).heap.size, wr.drew.heap.size, ((wr.drew.alloc (oI m)).alloc (oB n)).heap.size) _ ⟨(four_alloc wr.drew (oI m) (oB n) (oU n) (oV n)).2.2.2.1, (four_alloc wr.drew (oI m) (oB n) (oU n) (oV n)).2.1, (four_alloc wr.drew (oI m) (oB n) (oU n) (oV n)).1, (four_alloc wr.drew (oI m) (oB n) (oU n) (oV n)).2.2.1, ((Eff.refl _ wr).drew.trans (four_alloc wr.drew (oI m) (oB n) (oU n) (oV n)).2.2.2.2 (fun _ h => .inl h)), ⟨(by simp; try omega), (by simp; try omega), (by simp; try omega), (by simp; try omega)⟩, hHeld⟩)
      · skip
        refine value_ (w1 := _) (v := _) (by rfl) rfl (run_v (makeU n hn _)) ?_
        refine hK.out _ _ ⟨((eff_alloc _ _).cell hHeld.1 (fun h => h)), ((eff_alloc _ _).cell hHeld.2.1 (fun h => h)), (rangeAt_eff hHeld.2.2 (eff_alloc _ _) (fun h => h))⟩ (fun hHeld => ?_)
        clear hK K
        refine norm_ (a' := ?_) ?_ ?_
        rotate_left
        · show Act.put _ (some 30) _ = _
          simp only [Act.put, List.setIfInBounds_toArray, List.set_cons_zero, List.set_cons_succ, i64_w, i32_w]
          rfl
        refine two_ (i := 3) (j := 6) (Ni := some 20) (Nj := some 23) #[true, true, true, true, true, true, false, true, true, true, true, true, true, true, false, false, false] #[true, true, true, false, true, true, true, true, true, true, true, true, true, true, false, false, false] rfl rfl rfl rfl (by kernel_rfl) (by decide) (by decide) (fun K hK => ?_) (fun K hK => ?_)
        · skip
          refine value_ (w1 := _) (v := _) (by rfl) rfl (run_v (makeV n hn _)) ?_
          refine hK.out _ _ ⟨((eff_alloc _ _).cell hHeld.1 (fun h => h)), ((eff_alloc _ _).cell hHeld.2.1 (fun h => h)), (rangeAt_eff hHeld.2.2 (eff_alloc _ _) (fun h => h))⟩ (fun hHeld => ?_)
          clear hK K
          refine norm_ (a' := ?_) ?_ ?_
          rotate_left
          · show Act.put _ (some 20) _ = _
            simp only [Act.put, List.setIfInBounds_toArray, List.set_cons_zero, List.set_cons_succ, i64_w, i32_w]
            rfl
          refine one_ (i := 6) (N := some 23) #[true, true, true, true, true, true, true, true, true, true, true, true, true, true, false, false, false] rfl rfl (by kernel_rfl) (by decide) (fun K hK => ?_)
          refine value_ (w1 := _) (v := _) (by rfl) rfl (run_v (makeB n hn _)) ?_
          refine hK.out _ _ ⟨((eff_alloc _ _).cell hHeld.1 (fun h => h)), ((eff_alloc _ _).cell hHeld.2.1 (fun h => h)), (rangeAt_eff hHeld.2.2 (eff_alloc _ _) (fun h => h))⟩ (fun hHeld => ?_)
          clear hK K
          refine norm_ (a' := ?_) ?_ ?_
          rotate_left
          · show Act.put _ (some 23) _ = _
            simp only [Act.put, List.setIfInBounds_toArray, List.set_cons_zero, List.set_cons_succ, i64_w, i32_w]
            rfl
          exact norm_ (by simp only [putAll, Act.put, List.setIfInBounds_toArray, List.set_cons_zero, List.set_cons_succ]) (hCont (((wr.drew.alloc (oI m)).alloc (oU n)).heap.size, (((wr.drew.alloc (oI m)).alloc (oU n)).alloc (oV n)).heap.size, wr.drew.heap.size, (wr.drew.alloc (oI m)).heap.size) _ ⟨(four_alloc wr.drew (oI m) (oU n) (oV n) (oB n)).2.2.1, (four_alloc wr.drew (oI m) (oU n) (oV n) (oB n)).2.2.2.1, (four_alloc wr.drew (oI m) (oU n) (oV n) (oB n)).1, (four_alloc wr.drew (oI m) (oU n) (oV n) (oB n)).2.1, ((Eff.refl _ wr).drew.trans (four_alloc wr.drew (oI m) (oU n) (oV n) (oB n)).2.2.2.2 (fun _ h => .inl h)), ⟨(by simp; try omega), (by simp; try omega), (by simp; try omega), (by simp; try omega)⟩, hHeld⟩)
        · skip
          refine value_ (w1 := _) (v := _) (by rfl) rfl (run_v (makeB n hn _)) ?_
          refine hK.out _ _ ⟨((eff_alloc _ _).cell hHeld.1 (fun h => h)), ((eff_alloc _ _).cell hHeld.2.1 (fun h => h)), (rangeAt_eff hHeld.2.2 (eff_alloc _ _) (fun h => h))⟩ (fun hHeld => ?_)
          clear hK K
          refine norm_ (a' := ?_) ?_ ?_
          rotate_left
          · show Act.put _ (some 23) _ = _
            simp only [Act.put, List.setIfInBounds_toArray, List.set_cons_zero, List.set_cons_succ, i64_w, i32_w]
            rfl
          refine one_ (i := 3) (N := some 20) #[true, true, true, true, true, true, true, true, true, true, true, true, true, true, false, false, false] rfl rfl (by kernel_rfl) (by decide) (fun K hK => ?_)
          refine value_ (w1 := _) (v := _) (by rfl) rfl (run_v (makeV n hn _)) ?_
          refine hK.out _ _ ⟨((eff_alloc _ _).cell hHeld.1 (fun h => h)), ((eff_alloc _ _).cell hHeld.2.1 (fun h => h)), (rangeAt_eff hHeld.2.2 (eff_alloc _ _) (fun h => h))⟩ (fun hHeld => ?_)
          clear hK K
          refine norm_ (a' := ?_) ?_ ?_
          rotate_left
          · show Act.put _ (some 20) _ = _
            simp only [Act.put, List.setIfInBounds_toArray, List.set_cons_zero, List.set_cons_succ, i64_w, i32_w]
            rfl
          exact norm_ (by simp only [putAll, Act.put, List.setIfInBounds_toArray, List.set_cons_zero, List.set_cons_succ]) (hCont ((((wr.drew.alloc (oI m)).alloc (oU n)).alloc (oB n)).heap.size, ((wr.drew.alloc (oI m)).alloc (oU n)).heap.size, wr.drew.heap.size, (wr.drew.alloc (oI m)).heap.size) _ ⟨(four_alloc wr.drew (oI m) (oU n) (oB n) (oV n)).2.2.2.1, (four_alloc wr.drew (oI m) (oU n) (oB n) (oV n)).2.2.1, (four_alloc wr.drew (oI m) (oU n) (oB n) (oV n)).1, (four_alloc wr.drew (oI m) (oU n) (oB n) (oV n)).2.1, ((Eff.refl _ wr).drew.trans (four_alloc wr.drew (oI m) (oU n) (oB n) (oV n)).2.2.2.2 (fun _ h => .inl h)), ⟨(by simp; try omega), (by simp; try omega), (by simp; try omega), (by simp; try omega)⟩, hHeld⟩)
    · skip
      refine value_ (w1 := _) (v := _) (by rfl) rfl (run_v (makeU n hn _)) ?_
      refine hK.out _ _ ⟨((eff_alloc _ _).cell hHeld.1 (fun h => h)), ((eff_alloc _ _).cell hHeld.2.1 (fun h => h)), (rangeAt_eff hHeld.2.2 (eff_alloc _ _) (fun h => h))⟩ (fun hHeld => ?_)
      clear hK K
      refine norm_ (a' := ?_) ?_ ?_
      rotate_left
      · show Act.put _ (some 30) _ = _
        simp only [Act.put, List.setIfInBounds_toArray, List.set_cons_zero, List.set_cons_succ, i64_w, i32_w]
        rfl
      refine three_ (i := 3) (j := 6) (k := 10) (Ni := some 20) (Nj := some 23) (Nk := some 27) #[true, true, true, true, true, true, false, true, true, true, false, true, true, true, false, false, false] #[true, true, true, false, true, true, true, true, true, true, false, true, true, true, false, false, false] #[true, true, true, false, true, true, false, true, true, true, true, true, true, true, false, false, false] rfl rfl rfl rfl rfl rfl (by kernel_rfl) (by decide) (by decide) (by decide) (fun K hK => ?_) (fun K hK => ?_) (fun K hK => ?_)
      · skip
        refine value_ (w1 := _) (v := _) (by rfl) rfl (run_v (makeV n hn _)) ?_
        refine hK.out _ _ ⟨((eff_alloc _ _).cell hHeld.1 (fun h => h)), ((eff_alloc _ _).cell hHeld.2.1 (fun h => h)), (rangeAt_eff hHeld.2.2 (eff_alloc _ _) (fun h => h))⟩ (fun hHeld => ?_)
        clear hK K
        refine norm_ (a' := ?_) ?_ ?_
        rotate_left
        · show Act.put _ (some 20) _ = _
          simp only [Act.put, List.setIfInBounds_toArray, List.set_cons_zero, List.set_cons_succ, i64_w, i32_w]
          rfl
        refine two_ (i := 6) (j := 10) (Ni := some 23) (Nj := some 27) #[true, true, true, true, true, true, true, true, true, true, false, true, true, true, false, false, false] #[true, true, true, true, true, true, false, true, true, true, true, true, true, true, false, false, false] rfl rfl rfl rfl (by kernel_rfl) (by decide) (by decide) (fun K hK => ?_) (fun K hK => ?_)
        · skip
          refine value_ (w1 := _) (v := _) (by rfl) rfl (run_v (makeB n hn _)) ?_
          refine hK.out _ _ ⟨((eff_alloc _ _).cell hHeld.1 (fun h => h)), ((eff_alloc _ _).cell hHeld.2.1 (fun h => h)), (rangeAt_eff hHeld.2.2 (eff_alloc _ _) (fun h => h))⟩ (fun hHeld => ?_)
          clear hK K
          refine norm_ (a' := ?_) ?_ ?_
          rotate_left
          · show Act.put _ (some 23) _ = _
            simp only [Act.put, List.setIfInBounds_toArray, List.set_cons_zero, List.set_cons_succ, i64_w, i32_w]
            rfl
          refine one_ (i := 10) (N := some 27) #[true, true, true, true, true, true, true, true, true, true, true, true, true, true, false, false, false] rfl rfl (by kernel_rfl) (by decide) (fun K hK => ?_)
          refine value_ (w1 := _) (v := _) (by rfl) rfl (run_v (makeI m hm _)) ?_
          refine hK.out _ _ ⟨((eff_alloc _ _).cell hHeld.1 (fun h => h)), ((eff_alloc _ _).cell hHeld.2.1 (fun h => h)), (rangeAt_eff hHeld.2.2 (eff_alloc _ _) (fun h => h))⟩ (fun hHeld => ?_)
          clear hK K
          refine norm_ (a' := ?_) ?_ ?_
          rotate_left
          · show Act.put _ (some 27) _ = _
            simp only [Act.put, List.setIfInBounds_toArray, List.set_cons_zero, List.set_cons_succ, i64_w, i32_w]
            rfl
          exact norm_ (by simp only [putAll, Act.put, List.setIfInBounds_toArray, List.set_cons_zero, List.set_cons_succ]) (hCont ((wr.drew.alloc (oU n)).heap.size, ((wr.drew.alloc (oU n)).alloc (oV n)).heap.size, (((wr.drew.alloc (oU n)).alloc (oV n)).alloc (oB n)).heap.size, wr.drew.heap.size) _ ⟨(four_alloc wr.drew (oU n) (oV n) (oB n) (oI m)).2.1, (four_alloc wr.drew (oU n) (oV n) (oB n) (oI m)).2.2.1, (four_alloc wr.drew (oU n) (oV n) (oB n) (oI m)).2.2.2.1, (four_alloc wr.drew (oU n) (oV n) (oB n) (oI m)).1, ((Eff.refl _ wr).drew.trans (four_alloc wr.drew (oU n) (oV n) (oB n) (oI m)).2.2.2.2 (fun _ h => .inl h)), ⟨(by simp; try omega), (by simp; try omega), (by simp; try omega), (by simp; try omega)⟩, hHeld⟩)
        · skip
          refine value_ (w1 := _) (v := _) (by rfl) rfl (run_v (makeI m hm _)) ?_
          refine hK.out _ _ ⟨((eff_alloc _ _).cell hHeld.1 (fun h => h)), ((eff_alloc _ _).cell hHeld.2.1 (fun h => h)), (rangeAt_eff hHeld.2.2 (eff_alloc _ _) (fun h => h))⟩ (fun hHeld => ?_)
          clear hK K
          refine norm_ (a' := ?_) ?_ ?_
          rotate_left
          · show Act.put _ (some 27) _ = _
            simp only [Act.put, List.setIfInBounds_toArray, List.set_cons_zero, List.set_cons_succ, i64_w, i32_w]
            rfl
          refine one_ (i := 6) (N := some 23) #[true, true, true, true, true, true, true, true, true, true, true, true, true, true, false, false, false] rfl rfl (by kernel_rfl) (by decide) (fun K hK => ?_)
          refine value_ (w1 := _) (v := _) (by rfl) rfl (run_v (makeB n hn _)) ?_
          refine hK.out _ _ ⟨((eff_alloc _ _).cell hHeld.1 (fun h => h)), ((eff_alloc _ _).cell hHeld.2.1 (fun h => h)), (rangeAt_eff hHeld.2.2 (eff_alloc _ _) (fun h => h))⟩ (fun hHeld => ?_)
          clear hK K
          refine norm_ (a' := ?_) ?_ ?_
          rotate_left
          · show Act.put _ (some 23) _ = _
            simp only [Act.put, List.setIfInBounds_toArray, List.set_cons_zero, List.set_cons_succ, i64_w, i32_w]
            rfl
          exact norm_ (by simp only [putAll, Act.put, List.setIfInBounds_toArray, List.set_cons_zero, List.set_cons_succ]) (hCont ((wr.drew.alloc (oU n)).heap.size, (((wr.drew.alloc (oU n)).alloc (oV n)).alloc (oI m)).heap.size, ((wr.drew.alloc (oU n)).alloc (oV n)).heap.size, wr.drew.heap.size) _ ⟨(four_alloc wr.drew (oU n) (oV n) (oI m) (oB n)).2.1, (four_alloc wr.drew (oU n) (oV n) (oI m) (oB n)).2.2.2.1, (four_alloc wr.drew (oU n) (oV n) (oI m) (oB n)).2.2.1, (four_alloc wr.drew (oU n) (oV n) (oI m) (oB n)).1, ((Eff.refl _ wr).drew.trans (four_alloc wr.drew (oU n) (oV n) (oI m) (oB n)).2.2.2.2 (fun _ h => .inl h)), ⟨(by simp; try omega), (by simp; try omega), (by simp; try omega), (by simp; try omega)⟩, hHeld⟩)
      · skip
        refine value_ (w1 := _) (v := _) (by rfl) rfl (run_v (makeB n hn _)) ?_
        refine hK.out _ _ ⟨((eff_alloc _ _).cell hHeld.1 (fun h => h)), ((eff_alloc _ _).cell hHeld.2.1 (fun h => h)), (rangeAt_eff hHeld.2.2 (eff_alloc _ _) (fun h => h))⟩ (fun hHeld => ?_)
        clear hK K
        refine norm_ (a' := ?_) ?_ ?_
        rotate_left
        · show Act.put _ (some 23) _ = _
          simp only [Act.put, List.setIfInBounds_toArray, List.set_cons_zero, List.set_cons_succ, i64_w, i32_w]
          rfl
        refine two_ (i := 3) (j := 10) (Ni := some 20) (Nj := some 27) #[true, true, true, true, true, true, true, true, true, true, false, true, true, true, false, false, false] #[true, true, true, false, true, true, true, true, true, true, true, true, true, true, false, false, false] rfl rfl rfl rfl (by kernel_rfl) (by decide) (by decide) (fun K hK => ?_) (fun K hK => ?_)
        · skip
          refine value_ (w1 := _) (v := _) (by rfl) rfl (run_v (makeV n hn _)) ?_
          refine hK.out _ _ ⟨((eff_alloc _ _).cell hHeld.1 (fun h => h)), ((eff_alloc _ _).cell hHeld.2.1 (fun h => h)), (rangeAt_eff hHeld.2.2 (eff_alloc _ _) (fun h => h))⟩ (fun hHeld => ?_)
          clear hK K
          refine norm_ (a' := ?_) ?_ ?_
          rotate_left
          · show Act.put _ (some 20) _ = _
            simp only [Act.put, List.setIfInBounds_toArray, List.set_cons_zero, List.set_cons_succ, i64_w, i32_w]
            rfl
          refine one_ (i := 10) (N := some 27) #[true, true, true, true, true, true, true, true, true, true, true, true, true, true, false, false, false] rfl rfl (by kernel_rfl) (by decide) (fun K hK => ?_)
          refine value_ (w1 := _) (v := _) (by rfl) rfl (run_v (makeI m hm _)) ?_
          refine hK.out _ _ ⟨((eff_alloc _ _).cell hHeld.1 (fun h => h)), ((eff_alloc _ _).cell hHeld.2.1 (fun h => h)), (rangeAt_eff hHeld.2.2 (eff_alloc _ _) (fun h => h))⟩ (fun hHeld => ?_)
          clear hK K
          refine norm_ (a' := ?_) ?_ ?_
          rotate_left
          · show Act.put _ (some 27) _ = _
            simp only [Act.put, List.setIfInBounds_toArray, List.set_cons_zero, List.set_cons_succ, i64_w, i32_w]
            rfl
          exact norm_ (by simp only [putAll, Act.put, List.setIfInBounds_toArray, List.set_cons_zero, List.set_cons_succ]) (hCont (((wr.drew.alloc (oU n)).alloc (oB n)).heap.size, (wr.drew.alloc (oU n)).heap.size, (((wr.drew.alloc (oU n)).alloc (oB n)).alloc (oV n)).heap.size, wr.drew.heap.size) _ ⟨(four_alloc wr.drew (oU n) (oB n) (oV n) (oI m)).2.2.1, (four_alloc wr.drew (oU n) (oB n) (oV n) (oI m)).2.1, (four_alloc wr.drew (oU n) (oB n) (oV n) (oI m)).2.2.2.1, (four_alloc wr.drew (oU n) (oB n) (oV n) (oI m)).1, ((Eff.refl _ wr).drew.trans (four_alloc wr.drew (oU n) (oB n) (oV n) (oI m)).2.2.2.2 (fun _ h => .inl h)), ⟨(by simp; try omega), (by simp; try omega), (by simp; try omega), (by simp; try omega)⟩, hHeld⟩)
        · skip
          refine value_ (w1 := _) (v := _) (by rfl) rfl (run_v (makeI m hm _)) ?_
          refine hK.out _ _ ⟨((eff_alloc _ _).cell hHeld.1 (fun h => h)), ((eff_alloc _ _).cell hHeld.2.1 (fun h => h)), (rangeAt_eff hHeld.2.2 (eff_alloc _ _) (fun h => h))⟩ (fun hHeld => ?_)
          clear hK K
          refine norm_ (a' := ?_) ?_ ?_
          rotate_left
          · show Act.put _ (some 27) _ = _
            simp only [Act.put, List.setIfInBounds_toArray, List.set_cons_zero, List.set_cons_succ, i64_w, i32_w]
            rfl
          refine one_ (i := 3) (N := some 20) #[true, true, true, true, true, true, true, true, true, true, true, true, true, true, false, false, false] rfl rfl (by kernel_rfl) (by decide) (fun K hK => ?_)
          refine value_ (w1 := _) (v := _) (by rfl) rfl (run_v (makeV n hn _)) ?_
          refine hK.out _ _ ⟨((eff_alloc _ _).cell hHeld.1 (fun h => h)), ((eff_alloc _ _).cell hHeld.2.1 (fun h => h)), (rangeAt_eff hHeld.2.2 (eff_alloc _ _) (fun h => h))⟩ (fun hHeld => ?_)
          clear hK K
          refine norm_ (a' := ?_) ?_ ?_
          rotate_left
          · show Act.put _ (some 20) _ = _
            simp only [Act.put, List.setIfInBounds_toArray, List.set_cons_zero, List.set_cons_succ, i64_w, i32_w]
            rfl
          exact norm_ (by simp only [putAll, Act.put, List.setIfInBounds_toArray, List.set_cons_zero, List.set_cons_succ]) (hCont ((((wr.drew.alloc (oU n)).alloc (oB n)).alloc (oI m)).heap.size, (wr.drew.alloc (oU n)).heap.size, ((wr.drew.alloc (oU n)).alloc (oB n)).heap.size, wr.drew.heap.size) _ ⟨(four_alloc wr.drew (oU n) (oB n) (oI m) (oV n)).2.2.2.1, (four_alloc wr.drew (oU n) (oB n) (oI m) (oV n)).2.1, (four_alloc wr.drew (oU n) (oB n) (oI m) (oV n)).2.2.1, (four_alloc wr.drew (oU n) (oB n) (oI m) (oV n)).1, ((Eff.refl _ wr).drew.trans (four_alloc wr.drew (oU n) (oB n) (oI m) (oV n)).2.2.2.2 (fun _ h => .inl h)), ⟨(by simp; try omega), (by simp; try omega), (by simp; try omega), (by simp; try omega)⟩, hHeld⟩)
      · skip
        refine value_ (w1 := _) (v := _) (by rfl) rfl (run_v (makeI m hm _)) ?_
        refine hK.out _ _ ⟨((eff_alloc _ _).cell hHeld.1 (fun h => h)), ((eff_alloc _ _).cell hHeld.2.1 (fun h => h)), (rangeAt_eff hHeld.2.2 (eff_alloc _ _) (fun h => h))⟩ (fun hHeld => ?_)
        clear hK K
        refine norm_ (a' := ?_) ?_ ?_
        rotate_left
        · show Act.put _ (some 27) _ = _
          simp only [Act.put, List.setIfInBounds_toArray, List.set_cons_zero, List.set_cons_succ, i64_w, i32_w]
          rfl
        refine two_ (i := 3) (j := 6) (Ni := some 20) (Nj := some 23) #[true, true, true, true, true, true, false, true, true, true, true, true, true, true, false, false, false] #[true, true, true, false, true, true, true, true, true, true, true, true, true, true, false, false, false] rfl rfl rfl rfl (by kernel_rfl) (by decide) (by decide) (fun K hK => ?_) (fun K hK => ?_)
        · skip
          refine value_ (w1 := _) (v := _) (by rfl) rfl (run_v (makeV n hn _)) ?_
          refine hK.out _ _ ⟨((eff_alloc _ _).cell hHeld.1 (fun h => h)), ((eff_alloc _ _).cell hHeld.2.1 (fun h => h)), (rangeAt_eff hHeld.2.2 (eff_alloc _ _) (fun h => h))⟩ (fun hHeld => ?_)
          clear hK K
          refine norm_ (a' := ?_) ?_ ?_
          rotate_left
          · show Act.put _ (some 20) _ = _
            simp only [Act.put, List.setIfInBounds_toArray, List.set_cons_zero, List.set_cons_succ, i64_w, i32_w]
            rfl
          refine one_ (i := 6) (N := some 23) #[true, true, true, true, true, true, true, true, true, true, true, true, true, true, false, false, false] rfl rfl (by kernel_rfl) (by decide) (fun K hK => ?_)
          refine value_ (w1 := _) (v := _) (by rfl) rfl (run_v (makeB n hn _)) ?_
          refine hK.out _ _ ⟨((eff_alloc _ _).cell hHeld.1 (fun h => h)), ((eff_alloc _ _).cell hHeld.2.1 (fun h => h)), (rangeAt_eff hHeld.2.2 (eff_alloc _ _) (fun h => h))⟩ (fun hHeld => ?_)
          clear hK K
          refine norm_ (a' := ?_) ?_ ?_
          rotate_left
          · show Act.put _ (some 23) _ = _
            simp only [Act.put, List.setIfInBounds_toArray, List.set_cons_zero, List.set_cons_succ, i64_w, i32_w]
            rfl
          exact norm_ (by simp only [putAll, Act.put, List.setIfInBounds_toArray, List.set_cons_zero, List.set_cons_succ]) (hCont (((wr.drew.alloc (oU n)).alloc (oI m)).heap.size, (((wr.drew.alloc (oU n)).alloc (oI m)).alloc (oV n)).heap.size, (wr.drew.alloc (oU n)).heap.size, wr.drew.heap.size) _ ⟨(four_alloc wr.drew (oU n) (oI m) (oV n) (oB n)).2.2.1, (four_alloc wr.drew (oU n) (oI m) (oV n) (oB n)).2.2.2.1, (four_alloc wr.drew (oU n) (oI m) (oV n) (oB n)).2.1, (four_alloc wr.drew (oU n) (oI m) (oV n) (oB n)).1, ((Eff.refl _ wr).drew.trans (four_alloc wr.drew (oU n) (oI m) (oV n) (oB n)).2.2.2.2 (fun _ h => .inl h)), ⟨(by simp; try omega), (by simp; try omega), (by simp; try omega), (by simp; try omega)⟩, hHeld⟩)
        · skip
          refine value_ (w1 := _) (v := _) (by rfl) rfl (run_v (makeB n hn _)) ?_
          refine hK.out _ _ ⟨((eff_alloc _ _).cell hHeld.1 (fun h => h)), ((eff_alloc _ _).cell hHeld.2.1 (fun h => h)), (rangeAt_eff hHeld.2.2 (eff_alloc _ _) (fun h => h))⟩ (fun hHeld => ?_)
          clear hK K
          refine norm_ (a' := ?_) ?_ ?_
          rotate_left
          · show Act.put _ (some 23) _ = _
            simp only [Act.put, List.setIfInBounds_toArray, List.set_cons_zero, List.set_cons_succ, i64_w, i32_w]
            rfl
          refine one_ (i := 3) (N := some 20) #[true, true, true, true, true, true, true, true, true, true, true, true, true, true, false, false, false] rfl rfl (by kernel_rfl) (by decide) (fun K hK => ?_)
          refine value_ (w1 := _) (v := _) (by rfl) rfl (run_v (makeV n hn _)) ?_
          refine hK.out _ _ ⟨((eff_alloc _ _).cell hHeld.1 (fun h => h)), ((eff_alloc _ _).cell hHeld.2.1 (fun h => h)), (rangeAt_eff hHeld.2.2 (eff_alloc _ _) (fun h => h))⟩ (fun hHeld => ?_)
          clear hK K
          refine norm_ (a' := ?_) ?_ ?_
          rotate_left
          · show Act.put _ (some 20) _ = _
            simp only [Act.put, List.setIfInBounds_toArray, List.set_cons_zero, List.set_cons_succ, i64_w, i32_w]
            rfl
          exact norm_ (by simp only [putAll, Act.put, List.setIfInBounds_toArray, List.set_cons_zero, List.set_cons_succ]) (hCont ((((wr.drew.alloc (oU n)).alloc (oI m)).alloc (oB n)).heap.size, ((wr.drew.alloc (oU n)).alloc (oI m)).heap.size, (wr.drew.alloc (oU n)).heap.size, wr.drew.heap.size) _ ⟨(four_alloc wr.drew (oU n) (oI m) (oB n) (oV n)).2.2.2.1, (four_alloc wr.drew (oU n) (oI m) (oB n) (oV n)).2.2.1, (four_alloc wr.drew (oU n) (oI m) (oB n) (oV n)).2.1, (four_alloc wr.drew (oU n) (oI m) (oB n) (oV n)).1, ((Eff.refl _ wr).drew.trans (four_alloc wr.drew (oU n) (oI m) (oB n) (oV n)).2.2.2.2 (fun _ h => .inl h)), ⟨(by simp; try omega), (by simp; try omega), (by simp; try omega), (by simp; try omega)⟩, hHeld⟩)
  rintro ⟨bv, bs, bo, bu⟩ w1 ⟨x1, x2, x3, x4, x5, x6, hHeld⟩
  have XX := Lib.hid (And.intro x1 (And.intro x2 (And.intro x3 (And.intro x4 (And.intro x5 x6)))))
  clear x1 x2 x3 x4 x5 x6
  refine norm_ (a' := ?_) ?_ ?_
  rotate_left
  · simp only [putAll, Act.put, List.setIfInBounds_toArray, List.set_cons_zero, List.set_cons_succ]
    rfl
  refine pure_ (i := 14) (N := some 31) (v := ?_) (a' := ?_) #[true, true, true, true, true, true, true, true, true, true, true, true, true, true, true, false, false] rfl rfl (by kernel_rfl) (fun c a w h => HP.out c a _ _ w h) (Or.inl ⟨by rfl, ?_⟩) ?_ ?_
  rotate_left
  · intro w'
    go_simp
    with_reducible rfl
  rotate_left
  · simp only [Act.put, List.setIfInBounds_toArray, List.set_cons_zero, List.set_cons_succ, i64_w, i32_w]
    rfl
  refine last_ (i := 15) (N := some 32) #[true, true, true, true, true, true, true, true, true, true, true, true, true, true, true, true, false] rfl rfl (by kernel_rfl) (by decide) (fun K hK => ?_)
  refine value_ (w1 := ?_) (v := ?_) (by rfl) rfl ?_ ?_
  rotate_left 2
  · go_simp
    constructor
    · rfl
    · rfl
  refine hK.out _ _ ?_
  clear hK K
  refine norm_ (a' := ?_) ?_ ?_
  rotate_left
  · show Act.put _ (some 32) _ = _
    simp only [Act.put, List.setIfInBounds_toArray, List.set_cons_zero, List.set_cons_succ, i64_w, i32_w]
    rfl
  refine pure_ (i := 16) (N := some 4) (v := ?_) (a' := ?_) #[true, true, true, true, true, true, true, true, true, true, true, true, true, true, true, true, true] rfl rfl (by kernel_rfl) (fun c a w h => HP.out c a _ _ w h) (Or.inl ⟨by rfl, ?_⟩) ?_ ?_
  rotate_left
  · intro w'
    go_simp
    with_reducible rfl
  rotate_left
  · simp only [Act.put, List.setIfInBounds_toArray, List.set_cons_zero, List.set_cons_succ, i64_w, i32_w]
    rfl
  refine done_ (by kernel_rfl) ?_
  exact HQ.out _ _ _ _ _ XX.out _ _ _ _ _ _ _ _ _ _ _ _ _ _ _ _
end Go.Proofs.Ytepfbhigeghjjaa.Q
