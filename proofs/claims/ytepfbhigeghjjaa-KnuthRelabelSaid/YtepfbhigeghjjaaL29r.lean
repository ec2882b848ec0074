/- KnuthRelabel: the walk. -/
import Derived.OpenShut
import Derived.Test.YtepfbhigeghjjaaKPb
import Derived.Test.YtepfbhigeghjjaaQR
namespace Go.Proofs.Ytepfbhigeghjjaa.Q
open Go.RowKit Go.Proofs.YtepfbhigeghjjaaW.PrintLast
set_option linter.unusedVariables false
set_option linter.unusedSimpArgs false
set_option maxHeartbeats 2000000 in
set_option maxRecDepth 100000 in
theorem rel_r14 {xb tb tof tl tc j tn kn m hb ri n10 c10 c2 : Nat} {A10 A2 : Option Addr} {W2 : World} {Q : Exit → Act → World → Prop} (hp : ∀ c (a : Act) (i : Nat) (v : Value) w, Q (.panic c) (a.put (some i) v) w → Q (.panic c) a w)
    {u0 u1 u3 u4 u6 u7 u8 u12 u13 u14 u15 u16 u17 u18 u19 u20 u21 u22 u23 u24 u25 u26 u27 u28 u29 u30 u31 u32 u33 u34 u35 u36 u37 u38 u39 u40 u41 u42 u43 u44 u45 u46 u47 u48 u49 u50 u51 u52 u53 u54 u55 u56 u57 u58 u59 u60 u61 u62 u63 u64 u65 u66 u67 u68 u69 u70 u71 u72 u73 u74 u75 u76 u77 u78 u79 u80 u81 u82 u83 u84 u85 u86 u87 u88 u89 u90 u91 u92 u93 u94 u95 u96 u97 u98 u99 u100 u101 u102 u103 u104 u105 u106 u107 u108 u109 u110 u111 u112 u113 u114 u115 u116 u117 u118 u119 u120 u121 u122 u123 u124 u125 u126 u127 u128 u129 u130 u131 u132 u133 u134 u135 u136 u137 u138 u139 u140 u141 u142 u143 u144 u145 u146 u147 u148 u149 : Value} {wr : World} (hlz : (j : Int) < (tl : Int)) (hs : IntKind.i64.wrap ((tn : Int) + (kn : Int)) = (tn : Int) + (kn : Int)) (ht : Int.tmod ((tn : Int) + (kn : Int)) (m : Int) = (ri : Int)) (hr : IntKind.i64.wrap (ri : Int) = (ri : Int)) (hm0 : ¬ m = 0) (X1 : wr.cell? ⟨xb, 1, none⟩ = some (.slice (some ⟨tb, tof, none⟩) tl tc)) (T1 : wr.cell? ⟨tb, tof + j, none⟩ = some (.int .i64 tn)) (H0 : wr.cell? ⟨hb, 0, none⟩ = some (.int .i64 m)) (AP : Hid ((Builtin.append_ #[22, 22] 22 #[.slice A10 n10 c10, .slice (some ⟨wr.heap.size, 0, none⟩) 1 1]).run Try.prog (wr.alloc (.cells #[.int .i64 ri] 3)).drew = .ok (.slice A2 (n10 + 1) c2) W2))
    (hQ : ∀ (t48 t49 t50 t51 t52 t53 t54 t55 t56 t57 t58 t59 t60 : Value), Q .normal { tmps := #[u0, u1, .pointer (some ⟨hb, 0, none⟩), u3, u4, .int .i64 kn, u6, u7, u8, .pointer (some ⟨xb, 0, none⟩), .slice A2 (n10 + 1) c2, .int .i64 j, u12, u13, u14, u15, u16, u17, u18, u19, u20, u21, u22, u23, u24, u25, u26, u27, u28, u29, u30, u31, u32, u33, u34, u35, u36, u37, u38, u39, u40, u41, u42, u43, u44, u45, u46, u47, t48, t49, t50, t51, t52, t53, t54, t55, t56, t57, t58, t59, t60, u61, u62, u63, u64, u65, u66, u67, u68, u69, u70, u71, u72, u73, u74, u75, u76, u77, u78, u79, u80, u81, u82, u83, u84, u85, u86, u87, u88, u89, u90, u91, u92, u93, u94, u95, u96, u97, u98, u99, u100, u101, u102, u103, u104, u105, u106, u107, u108, u109, u110, u111, u112, u113, u114, u115, u116, u117, u118, u119, u120, u121, u122, u123, u124, u125, u126, u127, u128, u129, u130, u131, u132, u133, u134, u135, u136, u137, u138, u139, u140, u141, u142, u143, u144, u145, u146, u147, u148, u149], defers := [] } (W2)) :
    Code.wp Try.prog (reg (Try.f19) 14) Q { tmps := #[u0, u1, .pointer (some ⟨hb, 0, none⟩), u3, u4, .int .i64 kn, u6, u7, u8, .pointer (some ⟨xb, 0, none⟩), .slice A10 n10 c10, .int .i64 j, u12, u13, u14, u15, u16, u17, u18, u19, u20, u21, u22, u23, u24, u25, u26, u27, u28, u29, u30, u31, u32, u33, u34, u35, u36, u37, u38, u39, u40, u41, u42, u43, u44, u45, u46, u47, u48, u49, u50, u51, u52, u53, u54, u55, u56, u57, u58, u59, u60, u61, u62, u63, u64, u65, u66, u67, u68, u69, u70, u71, u72, u73, u74, u75, u76, u77, u78, u79, u80, u81, u82, u83, u84, u85, u86, u87, u88, u89, u90, u91, u92, u93, u94, u95, u96, u97, u98, u99, u100, u101, u102, u103, u104, u105, u106, u107, u108, u109, u110, u111, u112, u113, u114, u115, u116, u117, u118, u119, u120, u121, u122, u123, u124, u125, u126, u127, u128, u129, u130, u131, u132, u133, u134, u135, u136, u137, u138, u139, u140, u141, u142, u143, u144, u145, u146, u147, u148, u149], defers := [] } wr := by
  have HQ := Lib.hid hQ
  have HP := Lib.hid hp
  clear hQ hp
  refine start_ (n := 14) (S := fun w' => w'.cell? ⟨xb, 1, none⟩ = some (.slice (some ⟨tb, tof, none⟩) tl tc) ∧ w'.cell? ⟨tb, tof + j, none⟩ = some (.int .i64 tn) ∧ w'.cell? ⟨hb, 0, none⟩ = some (.int .i64 m)) (ds := [12]) #[false, false, false, false, false, false, false, false, false, false, false, false, false, false] (by kernel_rfl) rfl rfl ⟨X1, T1, H0⟩ (fun hHeld => ?_)
  refine pure_ (i := 0) (N := some 48) (v := ?_) (a' := ?_) #[true, false, false, false, false, false, false, false, false, false, false, false, false, false] rfl rfl (by kernel_rfl) (fun c a w h => HP.out c a _ _ w h) (Or.inl ⟨by rfl, ?_⟩) ?_ ?_
  rotate_left
  · intro w'
    go_simp
    with_reducible rfl
  rotate_left
  · simp only [Act.put, List.setIfInBounds_toArray, List.set_cons_zero, List.set_cons_succ, i64_w, i32_w]
    rfl
  refine pure_ (i := 1) (N := some 49) (v := ?_) (a' := ?_) #[true, true, false, false, false, false, false, false, false, false, false, false, false, false] rfl rfl (by kernel_rfl) (fun c a w h => HP.out c a _ _ w h) (Or.inl ⟨by rfl, ?_⟩) ?_ ?_
  rotate_left
  · intro w'
    go_simp
    with_reducible rfl
  rotate_left
  · simp only [Act.put, List.setIfInBounds_toArray, List.set_cons_zero, List.set_cons_succ, i64_w, i32_w]
    rfl
  refine pure_ (i := 3) (N := some 51) (v := ?_) (a' := ?_) #[true, true, false, true, false, false, false, false, false, false, false, false, false, false] rfl rfl (by kernel_rfl) (fun c a w h => HP.out c a _ _ w h) (Or.inl ⟨by rfl, ?_⟩) ?_ ?_
  rotate_left
  · intro w'
    go_simp
    with_reducible rfl
  rotate_left
  · simp only [Act.put, List.setIfInBounds_toArray, List.set_cons_zero, List.set_cons_succ, i64_w, i32_w]
    rfl
  refine pure_ (i := 6) (N := some 54) (v := ?_) (a' := ?_) #[true, true, false, true, false, false, true, false, false, false, false, false, false, false] rfl rfl (by kernel_rfl) (fun c a w h => HP.out c a _ _ w h) (Or.inl ⟨by rfl, ?_⟩) ?_ ?_
  rotate_left
  · intro w'
    go_simp
    with_reducible rfl
  rotate_left
  · simp only [Act.put, List.setIfInBounds_toArray, List.set_cons_zero, List.set_cons_succ, i64_w, i32_w]
    rfl
  refine pure_ (i := 8) (N := some 56) (v := ?_) (a' := ?_) #[true, true, false, true, false, false, true, false, true, false, false, false, false, false] rfl rfl (by kernel_rfl) (fun c a w h => HP.out c a _ _ w h) (Or.inl ⟨by rfl, ?_⟩) ?_ ?_
  rotate_left
  · intro w'
    go_simp
    with_reducible rfl
  rotate_left
  · simp only [Act.put, List.setIfInBounds_toArray, List.set_cons_zero, List.set_cons_succ, i64_w, i32_w]
    rfl
  refine take_ (i := 2) (N := some 50) (v := ?_) (a' := ?_) #[true, true, true, true, false, false, true, false, true, false, false, false, false, false] rfl rfl (by kernel_rfl) (fun c a w h => HP.out c a _ _ w h) (Or.inl ⟨by rfl, ?_⟩) hHeld ?_ ?_
  rotate_left
  · rintro w' ⟨s0, s1, s2⟩
    go_simp
    with_reducible rfl
  rotate_left
  · simp only [Act.put, List.setIfInBounds_toArray, List.set_cons_zero, List.set_cons_succ, i64_w, i32_w]
    rfl
  refine pure_ (i := 4) (N := some 52) (v := ?_) (a' := ?_) #[true, true, true, true, true, false, true, false, true, false, false, false, false, false] rfl rfl (by kernel_rfl) (fun c a w h => HP.out c a _ _ w h) (Or.inl ⟨by rfl, ?_⟩) ?_ ?_
  rotate_left
  · intro w'
    go_simp
    with_reducible rfl
  rotate_left
  · simp only [Act.put, List.setIfInBounds_toArray, List.set_cons_zero, List.set_cons_succ, i64_w, i32_w]
    rfl
  refine take_ (i := 5) (N := some 53) (v := ?_) (a' := ?_) #[true, true, true, true, true, true, true, false, true, false, false, false, false, false] rfl rfl (by kernel_rfl) (fun c a w h => HP.out c a _ _ w h) (Or.inl ⟨by rfl, ?_⟩) hHeld ?_ ?_
  rotate_left
  · rintro w' ⟨s0, s1, s2⟩
    go_simp
    with_reducible rfl
  rotate_left
  · simp only [Act.put, List.setIfInBounds_toArray, List.set_cons_zero, List.set_cons_succ, i64_w, i32_w]
    rfl
  refine pure_ (i := 7) (N := some 55) (v := ?_) (a' := ?_) #[true, true, true, true, true, true, true, true, true, false, false, false, false, false] rfl rfl (by kernel_rfl) (fun c a w h => HP.out c a _ _ w h) (Or.inl ⟨by rfl, ?_⟩) ?_ ?_
  rotate_left
  · intro w'
    go_simp
    with_reducible rfl
  rotate_left
  · simp only [Act.put, List.setIfInBounds_toArray, List.set_cons_zero, List.set_cons_succ, i64_w, i32_w]
    rfl
  refine take_ (i := 9) (N := some 57) (v := ?_) (a' := ?_) #[true, true, true, true, true, true, true, true, true, true, false, false, false, false] rfl rfl (by kernel_rfl) (fun c a w h => HP.out c a _ _ w h) (Or.inl ⟨by rfl, ?_⟩) hHeld ?_ ?_
  rotate_left
  · rintro w' ⟨s0, s1, s2⟩
    go_simp
    with_reducible rfl
  rotate_left
  · simp only [Act.put, List.setIfInBounds_toArray, List.set_cons_zero, List.set_cons_succ, i64_w, i32_w]
    rfl
  refine pure_ (i := 10) (N := some 58) (v := ?_) (a' := ?_) #[true, true, true, true, true, true, true, true, true, true, true, false, false, false] rfl rfl (by kernel_rfl) (fun c a w h => HP.out c a _ _ w h) (Or.inl ⟨by rfl, ?_⟩) ?_ ?_
  rotate_left
  · intro w'
    go_simp
    with_reducible rfl
  rotate_left
  · simp only [Act.put, List.setIfInBounds_toArray, List.set_cons_zero, List.set_cons_succ, i64_w, i32_w]
    rfl
  refine one_ (i := 11) (N := some 59) #[true, true, true, true, true, true, true, true, true, true, true, true, false, false] rfl rfl (by kernel_rfl) (by decide) (fun K hK => ?_)
  refine value_ (w1 := ?_) (v := ?_) (by rfl) rfl ?_ ?_
  rotate_left 2
  · go_simp
    constructor
    · rfl
    · rfl
  refine hK.out _ _ ⟨((eff_alloc _ _).cell hHeld.1 (fun h => h)), ((eff_alloc _ _).cell hHeld.2.1 (fun h => h)), ((eff_alloc _ _).cell hHeld.2.2 (fun h => h))⟩ (fun hHeld => ?_)
  clear hK K
  refine norm_ (a' := ?_) ?_ ?_
  rotate_left
  · show Act.put _ (some 59) _ = _
    simp only [Act.put, List.setIfInBounds_toArray, List.set_cons_zero, List.set_cons_succ, i64_w, i32_w]
    rfl
  refine last_ (i := 12) (N := some 60) #[true, true, true, true, true, true, true, true, true, true, true, true, true, false] rfl rfl (by kernel_rfl) (by decide) (fun K hK => ?_)
  refine value_ (w1 := W2) (v := .slice A2 (n10 + 1) c2) (by rfl) rfl (exec_append rfl (by rfl) (by rfl) AP.out) ?_
  refine hK.out _ _ ?_
  clear hK K
  refine norm_ (a' := ?_) ?_ ?_
  rotate_left
  · show Act.put _ (some 60) _ = _
    simp only [Act.put, List.setIfInBounds_toArray, List.set_cons_zero, List.set_cons_succ, i64_w, i32_w]
    rfl
  refine pure_ (i := 13) (N := some 10) (v := ?_) (a' := ?_) #[true, true, true, true, true, true, true, true, true, true, true, true, true, true] rfl rfl (by kernel_rfl) (fun c a w h => HP.out c a _ _ w h) (Or.inl ⟨by rfl, ?_⟩) ?_ ?_
  rotate_left
  · intro w'
    go_simp
    with_reducible rfl
  rotate_left
  · simp only [Act.put, List.setIfInBounds_toArray, List.set_cons_zero, List.set_cons_succ, i64_w, i32_w]
    rfl
  refine done_ (by kernel_rfl) ?_
  exact HQ.out _ _ _ _ _ _ _ _ _ _ _ _ _

set_option maxHeartbeats 2000000 in
set_option maxRecDepth 100000 in
theorem rel_r15 {xb hn kn m hb ri n10 c10 n7 c7 c2 : Nat} {cost : Int} {A7 A10 A2 : Option Addr} {W2 : World} {Q : Exit → Act → World → Prop} (hp : ∀ c (a : Act) (i : Nat) (v : Value) w, Q (.panic c) (a.put (some i) v) w → Q (.panic c) a w)
    {u0 u1 u3 u4 u6 u8 u11 u12 u13 u14 u15 u16 u17 u18 u19 u20 u21 u22 u23 u24 u25 u26 u27 u28 u29 u30 u31 u32 u33 u34 u35 u36 u37 u38 u39 u40 u41 u42 u43 u44 u45 u46 u47 u48 u49 u50 u51 u52 u53 u54 u55 u56 u57 u58 u59 u60 u61 u62 u63 u64 u65 u66 u67 u68 u69 u70 u71 u72 u73 u74 u75 u76 u77 u78 u79 u80 u81 u82 u83 u84 u85 u86 u87 u88 u89 u90 u91 u92 u93 u94 u95 u96 u97 u98 u99 u100 u101 u102 u103 u104 u105 u106 u107 u108 u109 u110 u111 u112 u113 u114 u115 u116 u117 u118 u119 u120 u121 u122 u123 u124 u125 u126 u127 u128 u129 u130 u131 u132 u133 u134 u135 u136 u137 u138 u139 u140 u141 u142 u143 u144 u145 u146 u147 u148 u149 : Value} {wr : World} (hs : IntKind.i64.wrap ((hn : Int) + (kn : Int)) = (hn : Int) + (kn : Int)) (ht : Int.tmod ((hn : Int) + (kn : Int)) (m : Int) = (ri : Int)) (hr : IntKind.i64.wrap (ri : Int) = (ri : Int)) (hm0 : ¬ m = 0) (X0 : wr.cell? ⟨xb, 0, none⟩ = some (.int .i64 hn)) (X2 : wr.cell? ⟨xb, 2, none⟩ = some (.int .i64 cost)) (H0 : wr.cell? ⟨hb, 0, none⟩ = some (.int .i64 m)) (AP : Hid ((Builtin.append_ #[46, 46] 46 #[.slice A7 n7 c7, .slice (some ⟨wr.heap.size, 0, none⟩) 1 1]).run Try.prog (wr.alloc (.cells #[.int .i64 ri, .slice A10 n10 c10, .int .i64 cost, .int .i64 0, .int .i64 0] 60)).drew = .ok (.slice A2 (n7 + 1) c2) W2))
    (hQ : ∀ (t61 t62 t63 t64 t65 t66 t67 t68 t69 t70 t71 t72 t73 t74 : Value), Q .normal { tmps := #[u0, u1, .pointer (some ⟨hb, 0, none⟩), u3, u4, .int .i64 kn, u6, .slice A2 (n7 + 1) c2, u8, .pointer (some ⟨xb, 0, none⟩), .slice A10 n10 c10, u11, u12, u13, u14, u15, u16, u17, u18, u19, u20, u21, u22, u23, u24, u25, u26, u27, u28, u29, u30, u31, u32, u33, u34, u35, u36, u37, u38, u39, u40, u41, u42, u43, u44, u45, u46, u47, u48, u49, u50, u51, u52, u53, u54, u55, u56, u57, u58, u59, u60, t61, t62, t63, t64, t65, t66, t67, t68, t69, t70, t71, t72, t73, t74, u75, u76, u77, u78, u79, u80, u81, u82, u83, u84, u85, u86, u87, u88, u89, u90, u91, u92, u93, u94, u95, u96, u97, u98, u99, u100, u101, u102, u103, u104, u105, u106, u107, u108, u109, u110, u111, u112, u113, u114, u115, u116, u117, u118, u119, u120, u121, u122, u123, u124, u125, u126, u127, u128, u129, u130, u131, u132, u133, u134, u135, u136, u137, u138, u139, u140, u141, u142, u143, u144, u145, u146, u147, u148, u149], defers := [] } (W2)) :
    Code.wp Try.prog (reg (Try.f19) 15) Q { tmps := #[u0, u1, .pointer (some ⟨hb, 0, none⟩), u3, u4, .int .i64 kn, u6, .slice A7 n7 c7, u8, .pointer (some ⟨xb, 0, none⟩), .slice A10 n10 c10, u11, u12, u13, u14, u15, u16, u17, u18, u19, u20, u21, u22, u23, u24, u25, u26, u27, u28, u29, u30, u31, u32, u33, u34, u35, u36, u37, u38, u39, u40, u41, u42, u43, u44, u45, u46, u47, u48, u49, u50, u51, u52, u53, u54, u55, u56, u57, u58, u59, u60, u61, u62, u63, u64, u65, u66, u67, u68, u69, u70, u71, u72, u73, u74, u75, u76, u77, u78, u79, u80, u81, u82, u83, u84, u85, u86, u87, u88, u89, u90, u91, u92, u93, u94, u95, u96, u97, u98, u99, u100, u101, u102, u103, u104, u105, u106, u107, u108, u109, u110, u111, u112, u113, u114, u115, u116, u117, u118, u119, u120, u121, u122, u123, u124, u125, u126, u127, u128, u129, u130, u131, u132, u133, u134, u135, u136, u137, u138, u139, u140, u141, u142, u143, u144, u145, u146, u147, u148, u149], defers := [] } wr := by
  have HQ := Lib.hid hQ
  have HP := Lib.hid hp
  clear hQ hp
  refine start_ (n := 15) (S := fun w' => w'.cell? ⟨xb, 0, none⟩ = some (.int .i64 hn) ∧ w'.cell? ⟨xb, 2, none⟩ = some (.int .i64 cost) ∧ w'.cell? ⟨hb, 0, none⟩ = some (.int .i64 m)) (ds := [13]) #[false, false, false, false, false, false, false, false, false, false, false, false, false, false, false] (by kernel_rfl) rfl rfl ⟨X0, X2, H0⟩ (fun hHeld => ?_)
  refine pure_ (i := 0) (N := some 61) (v := ?_) (a' := ?_) #[true, false, false, false, false, false, false, false, false, false, false, false, false, false, false] rfl rfl (by kernel_rfl) (fun c a w h => HP.out c a _ _ w h) (Or.inl ⟨by rfl, ?_⟩) ?_ ?_
  rotate_left
  · intro w'
    go_simp
    with_reducible rfl
  rotate_left
  · simp only [Act.put, List.setIfInBounds_toArray, List.set_cons_zero, List.set_cons_succ, i64_w, i32_w]
    rfl
  refine pure_ (i := 1) (N := some 62) (v := ?_) (a' := ?_) #[true, true, false, false, false, false, false, false, false, false, false, false, false, false, false] rfl rfl (by kernel_rfl) (fun c a w h => HP.out c a _ _ w h) (Or.inl ⟨by rfl, ?_⟩) ?_ ?_
  rotate_left
  · intro w'
    go_simp
    with_reducible rfl
  rotate_left
  · simp only [Act.put, List.setIfInBounds_toArray, List.set_cons_zero, List.set_cons_succ, i64_w, i32_w]
    rfl
  refine pure_ (i := 3) (N := some 64) (v := ?_) (a' := ?_) #[true, true, false, true, false, false, false, false, false, false, false, false, false, false, false] rfl rfl (by kernel_rfl) (fun c a w h => HP.out c a _ _ w h) (Or.inl ⟨by rfl, ?_⟩) ?_ ?_
  rotate_left
  · intro w'
    go_simp
    with_reducible rfl
  rotate_left
  · simp only [Act.put, List.setIfInBounds_toArray, List.set_cons_zero, List.set_cons_succ, i64_w, i32_w]
    rfl
  refine pure_ (i := 5) (N := some 66) (v := ?_) (a' := ?_) #[true, true, false, true, false, true, false, false, false, false, false, false, false, false, false] rfl rfl (by kernel_rfl) (fun c a w h => HP.out c a _ _ w h) (Or.inl ⟨by rfl, ?_⟩) ?_ ?_
  rotate_left
  · intro w'
    go_simp
    with_reducible rfl
  rotate_left
  · simp only [Act.put, List.setIfInBounds_toArray, List.set_cons_zero, List.set_cons_succ, i64_w, i32_w]
    rfl
  refine pure_ (i := 8) (N := some 69) (v := ?_) (a' := ?_) #[true, true, false, true, false, true, false, false, true, false, false, false, false, false, false] rfl rfl (by kernel_rfl) (fun c a w h => HP.out c a _ _ w h) (Or.inl ⟨by rfl, ?_⟩) ?_ ?_
  rotate_left
  · intro w'
    go_simp
    with_reducible rfl
  rotate_left
  · simp only [Act.put, List.setIfInBounds_toArray, List.set_cons_zero, List.set_cons_succ, i64_w, i32_w]
    rfl
  refine pure_ (i := 9) (N := some 70) (v := ?_) (a' := ?_) #[true, true, false, true, false, true, false, false, true, true, false, false, false, false, false] rfl rfl (by kernel_rfl) (fun c a w h => HP.out c a _ _ w h) (Or.inl ⟨by rfl, ?_⟩) ?_ ?_
  rotate_left
  · intro w'
    go_simp
    with_reducible rfl
  rotate_left
  · simp only [Act.put, List.setIfInBounds_toArray, List.set_cons_zero, List.set_cons_succ, i64_w, i32_w]
    rfl
  refine take_ (i := 2) (N := some 63) (v := ?_) (a' := ?_) #[true, true, true, true, false, true, false, false, true, true, false, false, false, false, false] rfl rfl (by kernel_rfl) (fun c a w h => HP.out c a _ _ w h) (Or.inl ⟨by rfl, ?_⟩) hHeld ?_ ?_
  rotate_left
  · rintro w' ⟨s0, s1, s2⟩
    go_simp
    with_reducible rfl
  rotate_left
  · simp only [Act.put, List.setIfInBounds_toArray, List.set_cons_zero, List.set_cons_succ, i64_w, i32_w]
    rfl
  refine pure_ (i := 4) (N := some 65) (v := ?_) (a' := ?_) #[true, true, true, true, true, true, false, false, true, true, false, false, false, false, false] rfl rfl (by kernel_rfl) (fun c a w h => HP.out c a _ _ w h) (Or.inl ⟨by rfl, ?_⟩) ?_ ?_
  rotate_left
  · intro w'
    go_simp
    with_reducible rfl
  rotate_left
  · simp only [Act.put, List.setIfInBounds_toArray, List.set_cons_zero, List.set_cons_succ, i64_w, i32_w]
    rfl
  refine take_ (i := 6) (N := some 67) (v := ?_) (a' := ?_) #[true, true, true, true, true, true, true, false, true, true, false, false, false, false, false] rfl rfl (by kernel_rfl) (fun c a w h => HP.out c a _ _ w h) (Or.inl ⟨by rfl, ?_⟩) hHeld ?_ ?_
  rotate_left
  · rintro w' ⟨s0, s1, s2⟩
    go_simp
    with_reducible rfl
  rotate_left
  · simp only [Act.put, List.setIfInBounds_toArray, List.set_cons_zero, List.set_cons_succ, i64_w, i32_w]
    rfl
  refine pure_ (i := 7) (N := some 68) (v := ?_) (a' := ?_) #[true, true, true, true, true, true, true, true, true, true, false, false, false, false, false] rfl rfl (by kernel_rfl) (fun c a w h => HP.out c a _ _ w h) (Or.inl ⟨by rfl, ?_⟩) ?_ ?_
  rotate_left
  · intro w'
    go_simp
    with_reducible rfl
  rotate_left
  · simp only [Act.put, List.setIfInBounds_toArray, List.set_cons_zero, List.set_cons_succ, i64_w, i32_w]
    rfl
  refine take_ (i := 10) (N := some 71) (v := ?_) (a' := ?_) #[true, true, true, true, true, true, true, true, true, true, true, false, false, false, false] rfl rfl (by kernel_rfl) (fun c a w h => HP.out c a _ _ w h) (Or.inl ⟨by rfl, ?_⟩) hHeld ?_ ?_
  rotate_left
  · rintro w' ⟨s0, s1, s2⟩
    go_simp
    with_reducible rfl
  rotate_left
  · simp only [Act.put, List.setIfInBounds_toArray, List.set_cons_zero, List.set_cons_succ, i64_w, i32_w]
    rfl
  refine pure_ (i := 11) (N := some 72) (v := ?_) (a' := ?_) #[true, true, true, true, true, true, true, true, true, true, true, true, false, false, false] rfl rfl (by kernel_rfl) (fun c a w h => HP.out c a _ _ w h) (Or.inl ⟨by rfl, ?_⟩) ?_ ?_
  rotate_left
  · intro w'
    go_simp
    with_reducible rfl
  rotate_left
  · simp only [Act.put, List.setIfInBounds_toArray, List.set_cons_zero, List.set_cons_succ, i64_w, i32_w]
    rfl
  refine one_ (i := 12) (N := some 73) #[true, true, true, true, true, true, true, true, true, true, true, true, true, false, false] rfl rfl (by kernel_rfl) (by decide) (fun K hK => ?_)
  refine value_ (w1 := ?_) (v := ?_) (by rfl) rfl ?_ ?_
  rotate_left 2
  · go_simp
    constructor
    · rfl
    · rfl
  refine hK.out _ _ ⟨((eff_alloc _ _).cell hHeld.1 (fun h => h)), ((eff_alloc _ _).cell hHeld.2.1 (fun h => h)), ((eff_alloc _ _).cell hHeld.2.2 (fun h => h))⟩ (fun hHeld => ?_)
  clear hK K
  refine norm_ (a' := ?_) ?_ ?_
  rotate_left
  · show Act.put _ (some 73) _ = _
    simp only [Act.put, List.setIfInBounds_toArray, List.set_cons_zero, List.set_cons_succ, i64_w, i32_w]
    rfl
  refine last_ (i := 13) (N := some 74) #[true, true, true, true, true, true, true, true, true, true, true, true, true, true, false] rfl rfl (by kernel_rfl) (by decide) (fun K hK => ?_)
  refine value_ (w1 := W2) (v := .slice A2 (n7 + 1) c2) (by rfl) rfl (exec_append rfl (by rfl) (by rfl) AP.out) ?_
  refine hK.out _ _ ?_
  clear hK K
  refine norm_ (a' := ?_) ?_ ?_
  rotate_left
  · show Act.put _ (some 74) _ = _
    simp only [Act.put, List.setIfInBounds_toArray, List.set_cons_zero, List.set_cons_succ, i64_w, i32_w]
    rfl
  refine pure_ (i := 14) (N := some 7) (v := ?_) (a' := ?_) #[true, true, true, true, true, true, true, true, true, true, true, true, true, true, true] rfl rfl (by kernel_rfl) (fun c a w h => HP.out c a _ _ w h) (Or.inl ⟨by rfl, ?_⟩) ?_ ?_
  rotate_left
  · intro w'
    go_simp
    with_reducible rfl
  rotate_left
  · simp only [Act.put, List.setIfInBounds_toArray, List.set_cons_zero, List.set_cons_succ, i64_w, i32_w]
    rfl
  refine done_ (by kernel_rfl) ?_
  exact HQ.out _ _ _ _ _ _ _ _ _ _ _ _ _ _

def rotI (m kn : Nat) (t : Int) : Int := ((K.rot m kn t.toNat : Nat) : Int)
def reR (m kn : Nat) (A : Option Addr) (c : Nat) (e : REd) : REd := ⟨A, c, rotI m kn e.head, e.tails.map (rotI m kn), e.cost, 0, 0⟩
theorem reR_plain (m kn : Nat) (A : Option Addr) (c : Nat) (e : REd) : (reR m kn A c e).plain = K.reE (K.rot m kn) e.plain := by
  show K.Ed.mk (rotI m kn e.head).toNat ((e.tails.map (rotI m kn)).map Int.toNat) e.cost = K.Ed.mk (K.rot m kn e.head.toNat) ((e.tails.map Int.toNat).map (K.rot m kn)) e.cost
  rw [List.map_map, List.map_map]
  rfl
theorem rot_rem {m kn i : Nat} (hm : 1 ≤ m) (hm30 : m ≤ 1000) (hi : i < m) (hk : kn < m) : IntKind.i64.wrap ((i : Int) + (kn : Int)) = (i : Int) + (kn : Int) ∧ Int.tmod ((i : Int) + (kn : Int)) (m : Int) = (K.rot m kn i : Int) ∧ IntKind.i64.wrap (K.rot m kn i : Int) = (K.rot m kn i : Int) ∧ ¬ m = 0 := by
  have h1 : K.rot m kn i < m := K.rot_lt hi
  refine ⟨IntWalk.i64_in _ (by omega), ?_, IntWalk.i64_in _ (by omega), by omega⟩
  rw [← Int.natCast_add]
  exact (Int.ofNat_tmod _ _).symm
theorem re_ok {m kn : Nat} {A : Option Addr} {c : Nat} {e : REd} (h : e.ok m) : (reR m kn A c e).ok m := by
  obtain ⟨k1, k2, k3, k4, k5, k6⟩ := h
  have hr : ∀ t : Int, 0 ≤ t → t < m → 0 ≤ rotI m kn t ∧ rotI m kn t < m := fun t h0 h1 => by
    have : K.rot m kn t.toNat < m := K.rot_lt (by omega)
    unfold rotI
    omega
  refine ⟨(hr _ k1 k2).1, (hr _ k1 k2).2, fun t ht => ?_, k4, k5, ?_⟩
  · obtain ⟨t0, h0, rfl⟩ := List.mem_map.1 ht
    exact hr t0 (k3 t0 h0).1 (k3 t0 h0).2
  · show (e.tails.map (rotI m kn)).length ≤ 4
    rw [List.length_map]
    exact k6
/-- The first i hyperedges are renumbered. -/
def ReL (m kn : Nat) (es : List REd) (i : Nat) (l : List REd) : Prop := l.length = i ∧ ∀ (j : Nat) e', l[j]? = some e' → ∃ e A c, es[j]? = some e ∧ e' = reR m kn A c e
theorem ReL.next {m kn : Nat} {es l : List REd} {i : Nat} {e : REd} (h : ReL m kn es i l) (he : es[i]? = some e) (A : Option Addr) (c : Nat) : ReL m kn es (i + 1) (l ++ [reR m kn A c e]) := by
  refine ⟨by rw [List.length_append, h.1]; rfl, fun j e' hj => ?_⟩
  by_cases hji : j < i
  · rw [List.getElem?_append_left (by rw [h.1]; exact hji)] at hj
    exact h.2 j e' hj
  · rw [List.getElem?_append_right (by rw [h.1]; omega), h.1] at hj
    have hj0 : j - i = 0 := by
      have := (List.getElem?_eq_some_iff.1 hj).1
      simp at this
      omega
    rw [hj0] at hj
    cases hj
    obtain rfl : j = i := by omega
    exact ⟨e, A, c, he, rfl⟩
theorem ReL.plain {m kn : Nat} {es l : List REd} (h : ReL m kn es es.length l) : l.map REd.plain = (es.map REd.plain).map (K.reE (K.rot m kn)) := by
  refine List.ext_getElem? (fun j => ?_)
  rw [List.getElem?_map, List.getElem?_map, List.getElem?_map]
  cases hl : l[j]? with
  | none =>
    rw [List.getElem?_eq_none (by rw [← h.1]; exact List.getElem?_eq_none_iff.1 hl)]
    rfl
  | some e' =>
    obtain ⟨e, A, c, he, rfl⟩ := h.2 j e' hl
    rw [he]
    show some (reR m kn A c e).plain = some _
    rw [reR_plain]
structure RSS (w wr : World) (hb gb : Nat) (m len cap : Nat) (A A7 : Option Addr) (c7 : Nat) (l : List REd) : Prop where
  below : Below w.heap.size w wr
  hh : HBZ wr hb m len cap A
  hg : HBZ wr gb m 0 0 none
  own : Own wr w.heap.size 60 5 A7 c7 encE l
  tls : ∀ e ∈ l, Own wr w.heap.size 3 1 e.A e.cap encI e.tails
theorem RSS.bel {w wr W : World} {hb gb m len cap : Nat} {A A7 : Option Addr} {c7 : Nat} {l : List REd} (h : RSS w wr hb gb m len cap A A7 c7 l) (hb' : Below wr.heap.size wr W) : RSS w W hb gb m len cap A A7 c7 l :=
  ⟨h.below.trans (hb'.mono h.below.size), h.hh.bel hb', h.hg.bel hb', h.own.bel hb', fun e he => (h.tls e he).bel hb'⟩
theorem Own.mono {W : World} {B B' : Nat} {et : TypeId} {s : Nat} {A : Option Addr} {c : Nat} {α : Type} {enc : α → List Value} {l : List α} (h : Own W B et s A c enc l) (hb : B' ≤ B) : Own W B' et s A c enc l := by
  refine ⟨h.1, h.2.imp id ?_⟩
  rintro ⟨g, cap, cur, e, hg, h1⟩
  exact ⟨g, cap, cur, e, Nat.le_trans hb hg, h1⟩
set_option maxHeartbeats 8000000 in
set_option maxRecDepth 100000 in
theorem relabel_walk (n : Int) (A : Option Addr) (cap : Nat) (es : List REd) (k : Int) (w : World) (hA : EdsIn w A es) (hk8 : (Lit.int .u8 k).wf = true) : Calls Try.prog 19 #[.agg #[.int .i64 n, .slice A es.length cap], .int .u8 k] w (TruePost w) := by
  have AW := Lib.hid awake44
  have HA := Lib.hid hA
  have hkb := bounds_u8 hk8
  clear hk8
  clear hA
  obtain ⟨W1, hW1⟩ : ∃ W, W = w.alloc (.cells #[.int .i64 n, .slice A es.length cap] 48) := ⟨_, rfl⟩
  obtain ⟨hb, hhb⟩ : ∃ b, b = w.heap.size := ⟨_, rfl⟩
  have B1 : Hid (Below w.heap.size w W1) := by rw [hW1]; exact (Below.refl _ _).alloc (Nat.le_refl _) _
  have H1 : Hid (HBZ W1 hb n es.length cap A) := by show W1.heap[hb]? = _; rw [hW1, hhb]; exact heap_alloc_new w _
  have HW1 := Lib.hid (And.intro hW1 hhb)
  have CS := Lib.hid (bounded49 (cap := cap) n es (HA.out.below B1.out))
  clear hW1 hhb
  go_enter Try.func19, Try.ntmps19
  go_wp2_with fail
  rw [← HW1.out.1, ← HW1.out.2]
  with_reducible refine CS.out.mono ?_
  rintro r w2 ⟨b, rfl, hb2, b2⟩
  have B2 : Hid (Below w.heap.size w w2) := B1.out.trans (b2.mono B1.out.size)
  have H2 := Lib.hid (H1.out.bel b2)
  have SM := Lib.hid hb2
  clear b2 hb2 H1 B1 HW1 CS
  cases b with
  | false =>
    go_wp2_with fail
    with_reducible refine (AW.out _).mono ?_
    rintro r w3 ⟨rfl, b3⟩
    have B3 : Hid (Below w.heap.size w w3) := B2.out.trans (b3.mono B2.out.size)
    clear b3
    go_wp2_with fail
    go_ret
    exact ⟨rfl, B3.out⟩
  | true =>
    obtain ⟨m, v0, f0, hm⟩ := SM.out rfl
    obtain ⟨⟨rfl, h1, h30, h60, hok⟩, hs0, hz0⟩ := hm
    have HOK := Lib.hid hok
    have HEE : Hid (∀ e ∈ es.map REd.plain, K.OkE m e) := edges_ok hok
    obtain ⟨y0, y1⟩ := H2.out.c
    obtain ⟨kn, hrm⟩ : ∃ i : Nat, Int.tmod k (m : Int) = (i : Int) := ⟨(Int.tmod k (m : Int)).toNat, by rw [Int.toNat_of_nonneg (Int.tmod_nonneg _ hkb.1)]⟩
    have hkn : kn < m := by
      have := Int.tmod_lt_of_pos k (show (0 : Int) < (m : Int) by omega)
      rw [hrm] at this
      omega
    have hwk : IntKind.i64.wrap k = k := IntWalk.i64_in _ (by omega)
    have hwi : IntKind.i64.wrap (kn : Int) = (kn : Int) := IntWalk.i64_in _ (by omega)
    have h5 : ((m : Int) == 0) = false := beq_eq_false_iff_ne.2 (by omega)
    have h6 : ¬ m = 0 := by omega
    obtain ⟨W4, hW4⟩ : ∃ W, W = w2.alloc (.cells #[.int .i64 m, .slice none 0 0] 48) := ⟨_, rfl⟩
    obtain ⟨gb, hgb⟩ : ∃ b, b = w2.heap.size := ⟨_, rfl⟩
    have b4 : Below w2.heap.size w2 W4 := by rw [hW4]; exact (Below.refl _ _).alloc (Nat.le_refl _) _
    have S4 : Hid (RSS w W4 hb gb m es.length cap A none 0 []) := ⟨B2.out.trans (b4.mono B2.out.size), H2.out.bel b4, by show W4.heap[gb]? = _; rw [hW4, hgb]; exact heap_alloc_new w2 _, Own.nil _ _ _, fun e he => by cases he⟩
    have HGB : Hid (w.heap.size ≤ gb) := by rw [hgb]; exact B2.out.size
    have HKN : Hid (kn < m ∧ 1 ≤ m ∧ m ≤ 1000) := ⟨hkn, h1, by omega⟩
    have HNE : Hid (¬ hb = gb) := fun h => by
      have := (Array.getElem?_eq_some_iff.1 (show w2.heap[hb]? = _ from H2.out)).1
      omega
    have HW4 := Lib.hid (And.intro hW4 hgb)
    clear hs0 hz0 hok SM hW4 hgb b4 B2 H2
    go_wp2_with fail
    rw [← HW4.out.1, ← HW4.out.2]
    clear hrm hwk hkb h5 h6 y0 y1 HW4 hwi
    go_loopg [7, 8] es.length (fun gk s7 s8 wr => ∃ (i : Nat) (A7 : Option Addr) (c7 : Nat) (l : List REd), s7 = .slice A7 l.length c7 ∧ s8 = .int .i64 i ∧ i ≤ es.length ∧ es.length - i ≤ gk ∧ Hid (RSS w wr hb gb m es.length cap A A7 c7 l ∧ ReL m kn es i l))
    case atStart => exact ⟨0, none, 0, [], rfl, rfl, by omega, by omega, S4.out, rfl, fun j e' h => by simp at h⟩
    case round =>
      clear S4
      obtain ⟨i, A7, c7, l, rfl, rfl, hi, hkk, HR⟩ := hrel
      obtain ⟨y0, y1⟩ := HR.out.1.hh.c
      by_cases hlt : i < es.length
      · have hlz : (i : Int) < (es.length : Int) := by omega
        obtain ⟨e, he⟩ : ∃ e, es[i]? = some e := ⟨_, List.getElem?_eq_getElem hlt⟩
        have HE := Lib.hid he
        have hok := HOK.out e (List.mem_of_getElem? he)
        have HTI := Lib.hid (HA.out.tails e (List.mem_of_getElem? he))
        obtain ⟨b, o, rfl, z0, z1, z2, z3, z4⟩ := HA.out.c HR.out.1.below he
        obtain ⟨hn', hhn⟩ : ∃ x, e.head.toNat = x := ⟨_, rfl⟩
        have hhe : e.head = (hn' : Int) := by rw [← hhn, Int.toNat_of_nonneg hok.1]
        have hhl : hn' < m := by have := hok.2.1; omega
        rw [hhe] at z0
        obtain ⟨W2, hW2⟩ : ∃ W, W = wr.alloc (.cells #[.int .i64 hn', .slice e.A e.tails.length e.cap, .int .i64 e.cost, .int .i64 e.l0, .int .i64 e.l1] 60) := ⟨_, rfl⟩
        obtain ⟨xb, hxb⟩ : ∃ b, b = wr.heap.size := ⟨_, rfl⟩
        have B2 : Below wr.heap.size wr W2 := by rw [hW2]; exact (Below.refl _ _).alloc (Nat.le_refl _) _
        have X2 : Hid (W2.heap[xb]? = some (.cells #[.int .i64 hn', .slice e.A e.tails.length e.cap, .int .i64 e.cost, .int .i64 e.l0, .int .i64 e.l1] 60 (0, 0))) := by show _ = _; rw [hW2, hxb]; exact heap_alloc_new wr _
        have S2 : Hid (RSS w W2 hb gb m es.length cap (some ⟨b, o, none⟩) A7 c7 l ∧ ReL m kn es i l) := ⟨HR.out.1.bel B2, HR.out.2⟩
        have HHN : Hid (rotI m kn e.head = ((K.rot m kn hn' : Nat) : Int)) := by show ((K.rot m kn e.head.toNat : Nat) : Int) = _; rw [hhn]
        have HTK : Hid (∀ t ∈ e.tails, 0 ≤ t ∧ t < m) := hok.2.2.1
        have HT4 : Hid (e.tails.length ≤ 4) := hok.2.2.2.2.2
        have HW2 := Lib.hid (And.intro hW2 hxb)
        clear he hok hhn hhe hW2 hxb B2 HR
        go_wp2_with fail
        rw [← HW2.out.1, ← HW2.out.2]
        clear z0 z1 z2 z3 z4 y0 y1 HW2
        go_loopg [10, 11] e.tails.length (fun gj s10 s11 wr => ∃ (j : Nat) (A10 : Option Addr) (c10 : Nat), s10 = .slice A10 j c10 ∧ s11 = .int .i64 j ∧ j ≤ e.tails.length ∧ e.tails.length - j ≤ gj ∧ Hid (Below W2.heap.size W2 wr ∧ Own wr W2.heap.size 3 1 A10 c10 encI ((e.tails.take j).map (rotI m kn))))
        case atStart => exact ⟨0, none, 0, rfl, rfl, by omega, by omega, Below.refl _ _, Own.nil _ _ _⟩
        case round =>
          obtain ⟨j, A10, c10, rfl, rfl, hj, hkj, HJ⟩ := hrel
          have x1 : wr.cell? ⟨xb, 1, none⟩ = some (.slice e.A e.tails.length e.cap) := by have := below_heap HJ.out.1 X2.out; simp only [World.cell?, this]; rfl
          by_cases hjt : j < e.tails.length
          · have hjz : (j : Int) < (e.tails.length : Int) := by omega
            obtain ⟨t, ht⟩ : ∃ t, e.tails[j]? = some t := ⟨_, List.getElem?_eq_getElem hjt⟩
            have hwW : Below w.heap.size w wr := S2.out.1.below.trans (HJ.out.1.mono S2.out.1.below.size)
            obtain ⟨tb, tof, hTA, ct⟩ := HTI.out.c hwW ht
            rw [hTA] at x1
            have htb := HTK.out t (List.mem_of_getElem? ht)
            obtain ⟨tn, rfl⟩ : ∃ tn : Nat, t = tn := ⟨t.toNat, (Int.toNat_of_nonneg htb.1).symm⟩
            have htn : tn < m := by omega
            obtain ⟨r1, r2, r3, r4⟩ := rot_rem HKN.out.2.1 HKN.out.2.2 htn HKN.out.1
            have hlen : ((e.tails.take j).map (rotI m kn)).length = j := by rw [List.length_map, List.length_take]; omega
            have al : Below wr.heap.size wr (wr.alloc (.cells #[.int .i64 (K.rot m kn tn : Nat)] 3)).drew := ((Below.refl _ _).alloc (Nat.le_refl _) _).drew
            obtain ⟨A2, c2, W5, hap, hown, hb5, _⟩ := append_any (c2 := 1) kindI (HJ.out.2.bel al) (Nat.le_trans HJ.out.1.size al.size) (l2 := [((K.rot m kn tn : Nat) : Int)]) (sb := wr.heap.size) (so := 0) (fun q y hy => by
              have hq : q = 0 := by
                have := (List.getElem?_eq_some_iff.1 hy).1
                simpa using this
              subst hq
              cases hy
              refine ⟨_, _, rfl, ?_⟩
              exact box_range (L := encI ((K.rot m kn tn : Nat) : Int)) (heap_alloc_new wr _) 0 _ (fun j v h => by rw [Nat.zero_add]; exact h)) (by rw [hlen]; show j + 1 ≤ _; have := HT4.out; omega)
            rw [hlen] at hap
            have hnx : (e.tails.take j).map (rotI m kn) ++ [((K.rot m kn tn : Nat) : Int)] = (e.tails.take (j + 1)).map (rotI m kn) := by
              rw [List.take_add_one, ht, List.map_append]
              rfl
            rw [hnx] at hown
            have HJ2 : Hid (Below W2.heap.size W2 W5 ∧ Own W5 W2.heap.size 3 1 A2 c2 encI ((e.tails.take (j + 1)).map (rotI m kn))) := ⟨(HJ.out.1.trans (al.mono HJ.out.1.size)).trans hb5, hown⟩
            have AP : Hid ((Builtin.append_ #[22, 22] 22 #[.slice A10 j c10, .slice (some ⟨wr.heap.size, 0, none⟩) 1 1]).run Try.prog (wr.alloc (.cells #[.int .i64 (K.rot m kn tn : Nat)] 3)).drew = .ok (.slice A2 (j + 1) c2) W5) := hap
            have HLT : Hid (j + 1 ≤ e.tails.length) := hjt
            have HRR := Lib.hid (And.intro r1 (And.intro r2 (And.intro r3 r4)))
            have HX := Lib.hid (And.intro x1 (And.intro ct (S2.out.1.hh.bel HJ.out.1).c.1))
            clear r1 r2 r3 r4 hlen al hap hown hb5 hnx htb ht ct hwW hTA
            go_wp2_with fail
            refine rel_r14 (fun _ _ _ _ _ h => h) (by omega) HRR.out.1 HRR.out.2.1 HRR.out.2.2.1 HRR.out.2.2.2 HX.out.1 HX.out.2.1 HX.out.2.2 AP ?_
            intro t48 t49 t50 t51 t52 t53 t54 t55 t56 t57 t58 t59 t60
            have hj5 : j ≤ 3 := by
              have h44 := HT4.out
              have h45 := HLT.out
              omega
            go_wp2_with fail
            go_roundg (e.tails.length - (j + 1))
            case measure =>
              have := HLT.out
              omega
            case rel => 
              have h44 := HT4.out
              have h45 := HLT.out
              exact ⟨j + 1, A2, c2, rfl, by go_num, HLT.out, by omega, HJ2.out⟩
          · have hjz : ¬ (j : Int) < (e.tails.length : Int) := by omega
            obtain rfl : e.tails.length = j := by omega
            have hO := HJ.out.2
            rw [List.take_length] at hO
            have S5 := S2.out.1.bel HJ.out.1
            obtain ⟨r1, r2, r3, r4⟩ := rot_rem HKN.out.2.1 HKN.out.2.2 hhl HKN.out.1
            have al : Below wr.heap.size wr (wr.alloc (.cells #[.int .i64 (K.rot m kn hn' : Nat), .slice A10 e.tails.length c10, .int .i64 e.cost, .int .i64 0, .int .i64 0] 60)).drew := ((Below.refl _ _).alloc (Nat.le_refl _) _).drew
            have hen : encE (reR m kn A10 c10 e) = [.int .i64 (K.rot m kn hn' : Nat), .slice A10 e.tails.length c10, .int .i64 e.cost, .int .i64 0, .int .i64 0] := by
              show [Value.int .i64 (rotI m kn e.head), .slice A10 (e.tails.map (rotI m kn)).length c10, _, _, _] = _
              rw [HHN.out, List.length_map]
              rfl
            obtain ⟨A2, c2, W6, hap, hown, hb6, he6⟩ := append_any (c2 := 1) kindE (S5.own.bel al) (Nat.le_trans S5.below.size al.size) (l2 := [reR m kn A10 c10 e]) (sb := wr.heap.size) (so := 0) (fun q y hy => by
              have hq : q = 0 := by
                have := (List.getElem?_eq_some_iff.1 hy).1
                simpa using this
              subst hq
              cases hy
              refine ⟨_, _, rfl, ?_⟩
              rw [hen]
              exact box_range (heap_alloc_new wr _) 0 _ (fun j v h => by rw [Nat.zero_add]; exact h)) (by show l.length + 1 ≤ _; have := S2.out.2.1; omega)
            have AP : Hid ((Builtin.append_ #[46, 46] 46 #[.slice A7 l.length c7, .slice (some ⟨wr.heap.size, 0, none⟩) 1 1]).run Try.prog (wr.alloc (.cells #[.int .i64 (K.rot m kn hn' : Nat), .slice A10 e.tails.length c10, .int .i64 e.cost, .int .i64 0, .int .i64 0] 60)).drew = .ok (.slice A2 (l.length + 1) c2) W6) := hap
            have hE : Eff (fun k => A7 = some ⟨k, 0, none⟩) wr W6 := (Eff.of_below al _).trans he6 (fun i h => .inl h)
            have hS : ∀ k, A7 = some ⟨k, 0, none⟩ → w.heap.size ≤ k ∧ ∃ c, wr.heap[k]? = some (.cells c 60 (0, 0)) := fun k hk => S5.own.blk hk
            have tl : ∀ (e' : REd), Own wr w.heap.size 3 1 e'.A e'.cap encI e'.tails → Own W6 w.heap.size 3 1 e'.A e'.cap encI e'.tails := fun e' h => h.eff hE (fun k _ _ hA hk => by
              obtain ⟨_, c, h2⟩ := hS k hk
              obtain ⟨_, c', h3⟩ := h.blk hA
              rw [h2] at h3
              simp only [Option.some.injEq, Obj.cells.injEq] at h3
              exact absurd h3.2.1 (by decide))
            have S6 : Hid (RSS w W6 hb gb m es.length cap (some ⟨b, o, none⟩) A2 c2 (l ++ [reR m kn A10 c10 e]) ∧ ReL m kn es (i + 1) (l ++ [reR m kn A10 c10 e])) := by
              refine ⟨⟨S5.below.trans (hE.belowB S5.below.size (fun k hk => (hS k hk).1)), S5.hh.eff hE (by decide) (fun k hk => (hS k hk).2), S5.hg.eff hE (by decide) (fun k hk => (hS k hk).2), hown, fun e' he' => ?_⟩, S2.out.2.next HE.out A10 c10⟩
              rcases List.mem_append.1 he' with h | h
              · exact tl e' (S5.tls e' h)
              · obtain rfl : e' = reR m kn A10 c10 e := by simpa using h
                exact tl _ (hO.mono S2.out.1.below.size)
            have HRR := Lib.hid (And.intro r1 (And.intro r2 (And.intro r3 r4)))
            have x0 : wr.cell? ⟨xb, 0, none⟩ = some (.int .i64 hn') := by have := below_heap HJ.out.1 X2.out; simp only [World.cell?, this]; rfl
            have x2 : wr.cell? ⟨xb, 2, none⟩ = some (.int .i64 e.cost) := by have := below_heap HJ.out.1 X2.out; simp only [World.cell?, this]; rfl
            have HX := Lib.hid (And.intro x0 (And.intro x2 S5.hh.c.1))
            clear r1 r2 r3 r4 al hen hap hown hb6 he6 hE hS tl hO S5 x0 x2 hj hkj hjt
            go_wp2_with fail
            refine rel_r15 (fun _ _ _ _ _ h => h) HRR.out.1 HRR.out.2.1 HRR.out.2.2.1 HRR.out.2.2.2 HX.out.1 HX.out.2.1 HX.out.2.2 AP ?_
            intro t61 t62 t63 t64 t65 t66 t67 t68 t69 t70 t71 t72 t73 t74
            go_wp2_with fail
            go_roundg (es.length - (i + 1))
            case measure => omega
            case rel => exact ⟨i + 1, A2, c2, _, by rw [List.length_append]; rfl, by go_num, by omega, by omega, S6.out⟩
      · have hlz : ¬ (i : Int) < (es.length : Int) := by omega
        obtain rfl : es.length = i := by omega
        obtain ⟨p0, p1⟩ := HR.out.1.hg.c
        have p2 : wr.frozen? ⟨gb, 1, none⟩ = false := frozen_blk (show wr.heap[gb]? = _ from HR.out.1.hg) 1
        obtain ⟨W5, hW5⟩ : ∃ W, W = wr.setCell ⟨gb, 1, none⟩ (.slice A7 l.length c7) := ⟨_, rfl⟩
        have he5 : Eff (fun k => k = gb) wr W5 := by rw [hW5]; exact eff_setCell wr gb 1 _
        have G5 : HBZ W5 gb m l.length c7 A7 := by show W5.heap[gb]? = _; rw [hW5]; exact set_cell (show wr.heap[gb]? = _ from HR.out.1.hg) 1 _
        have B5 : Below w.heap.size w W5 := HR.out.1.below.trans (he5.belowB HR.out.1.below.size (fun k hk => by rw [hk]; exact HGB.out))
        have hnt : ∀ {k : Nat} {c : Array Value} {t : TypeId}, wr.heap[k]? = some (.cells c t (0, 0)) → t ≠ 48 → ¬ k = gb := fun {k c t} hk ht hkg => by
          subst hkg
          have h3 : wr.heap[k]? = _ := HR.out.1.hg
          rw [h3] at hk
          simp only [Option.some.injEq, Obj.cells.injEq] at hk
          exact ht hk.2.1.symm
        have O5 : Own W5 w.heap.size 60 5 A7 c7 encE l := HR.out.1.own.eff he5 (fun k _ _ hA => by
          obtain ⟨_, c, h2⟩ := HR.out.1.own.blk hA
          exact hnt h2 (by decide))
        have T5 : ∀ e ∈ l, IntsIn W5 e.A e.tails := fun e he => by
          have h := HR.out.1.tls e he
          exact ((h.eff he5 (fun k _ _ hA => by
            obtain ⟨_, c, h2⟩ := h.blk hA
            exact hnt h2 (by decide))).row kindI).ints
        have hokl : ∀ e ∈ l, e.ok m := fun e' he' => by
          obtain ⟨j, hj⟩ := List.getElem?_of_mem he'
          obtain ⟨e, A', c', h1, rfl⟩ := HR.out.2.2 j e' hj
          exact re_ok (HOK.out e (List.mem_of_getElem? h1))
        have H5 : HBZ W5 hb m es.length cap A ∨ hb = gb := by
          by_cases h : hb = gb
          · exact .inr h
          · exact .inl (he5.heap HR.out.1.hh h)
        have H5 : HBZ W5 hb m es.length cap A := H5.resolve_right HNE.out
        have HP : Hid (l.map REd.plain = (es.map REd.plain).map (K.reE (K.rot m kn)) ∧ ∀ e ∈ l, e.ok m) := ⟨HR.out.2.plain, hokl⟩
        have S5 : Hid (Below w.heap.size w W5 ∧ HBZ W5 hb m es.length cap A ∧ HBZ W5 gb m l.length c7 A7 ∧ EdsIn W5 A7 l ∧ l.length = es.length) := ⟨B5, H5, G5, eds_of (O5.row kindE) T5, HR.out.2.1⟩
        have HW5 := Lib.hid hW5
        have q0 : (wr.setCell ⟨gb, 1, none⟩ (.slice A7 l.length c7)).cell? ⟨hb, 0, none⟩ = some (.int .i64 m) := by rw [← hW5]; exact H5.c.1
        have q1 : (wr.setCell ⟨gb, 1, none⟩ (.slice A7 l.length c7)).cell? ⟨hb, 1, none⟩ = some (.slice A es.length cap) := by rw [← hW5]; exact H5.c.2
        have C50 := Lib.hid (solve50 (ecap := cap) (HA.out.below B5) HOK.out (by omega) (by omega))
        clear he5 G5 B5 O5 T5 hokl H5 hW5 HR hi hkk hlt
        go_wp2_with fail
        rw [← HW5.out]
        with_reducible refine C50.out.mono ?_
        rintro r w6 ⟨bv, be, v, f, rfl, hs, hv, hf, b6, _, _⟩
        have S6 : Hid (Below w.heap.size w w6 ∧ HBZ w6 hb m es.length cap A ∧ HBZ w6 gb m l.length c7 A7 ∧ EdsIn w6 A7 l ∧ l.length = es.length) := ⟨S5.out.1.trans (b6.mono S5.out.1.size), S5.out.2.1.bel b6, S5.out.2.2.1.bel b6, S5.out.2.2.2.1.below b6, S5.out.2.2.2.2⟩
        have V6 : Hid (ValsAt w6 bv m v ∧ w6.rowIs be 3 m (intRow f) ∧ K.Sol (es.map REd.plain) m v f) := ⟨hv, hf, hs⟩
        clear b6 hs hv hf C50 S5 q0 q1 p0 p1 p2 y0 y1 HW5 hlz
        have C50 := Lib.hid (solve50 (ecap := c7) S6.out.2.2.2.1 HP.out.2 (by omega) (by have := S6.out.2.2.2.2; omega))
        obtain ⟨y0, y1⟩ := S6.out.2.2.1.c
        go_wp2_with fail
        with_reducible refine C50.out.mono ?_
        rintro r w7 ⟨bw, bg, v', f', rfl, hs, hv, hf, b7, _, _⟩
        have hs : K.Sol ((es.map REd.plain).map (K.reE (K.rot m kn))) m v' f' := by rw [← HP.out.1]; exact hs
        have U : Hid (∀ i, i < m → v' (K.rot m kn i) = v i ∧ f' (K.rot m kn i) = f i) := fun i hi => (K.relabel_sol HEE.out (fun i hi => K.rot_lt hi) (K.rot_inj HKN.out.1) hs).unique HEE.out V6.out.2.2 i hi
        have S7 : Hid (Below w.heap.size w w7 ∧ HBZ w7 hb m es.length cap A ∧ ValsAt w7 bv m v ∧ w7.rowIs be 3 m (intRow f) ∧ ValsAt w7 bw m v' ∧ w7.rowIs bg 3 m (intRow f')) := ⟨S6.out.1.trans (b7.mono S6.out.1.size), S6.out.2.1.bel b7, V6.out.1.bel b7, row_below V6.out.2.1 b7, hv, hf⟩
        clear b7 hs hv hf C50 S6 V6 y0 y1 HP
        obtain ⟨y0, y1⟩ := S7.out.2.1.c
        go_wp2_with fail
        clear y0 y1
        go_loopg [16] m (fun gk s16 wr => ∃ i : Nat, s16 = .int .i64 i ∧ i ≤ m ∧ m - i ≤ gk ∧ Hid (Below w.heap.size w wr ∧ HBZ wr hb m es.length cap A ∧ ValsAt wr bv m v ∧ wr.rowIs be 3 m (intRow f) ∧ ValsAt wr bw m v' ∧ wr.rowIs bg 3 m (intRow f')))
        case atStart => exact ⟨0, rfl, by omega, by omega, S7.out⟩
        case round =>
          clear S7
          obtain ⟨i, rfl, hi, hkk, HR⟩ := hrel
          obtain ⟨y0, y1⟩ := HR.out.2.1.c
          by_cases hlt : i < m
          · have hlz : (i : Int) < (m : Int) := by omega
            obtain ⟨r1, r2, r3, r4⟩ := rot_rem HKN.out.2.1 HKN.out.2.2 hlt HKN.out.1
            have hrl : K.rot m kn i < m := K.rot_lt hlt
            obtain ⟨u1, u2⟩ := U.out i hlt
            obtain ⟨ri, hri⟩ : ∃ ri, K.rot m kn i = ri := ⟨_, rfl⟩
            rw [hri] at r2 r3 hrl u1 u2
            obtain ⟨⟨q1, q2⟩, hq⟩ : ∃ x, v i = x := ⟨_, rfl⟩
            obtain ⟨fi, hfi⟩ : ∃ x, f i = x := ⟨_, rfl⟩
            rw [hq] at u1
            rw [hfi] at u2
            have z1 : wr.cell? ⟨bv, i * 2, none⟩ = some (.int .i64 q1) := by have := HR.out.2.2.1.at_ i hlt 0 (.int .i64 q1) (by rw [hq]; rfl); exact this
            have z2 : wr.cell? ⟨bv, i * 2 + 1, none⟩ = some (.int .i64 q2) := by have := HR.out.2.2.1.at_ i hlt 1 (.int .i64 q2) (by rw [hq]; rfl); exact this
            have z3 : wr.cell? ⟨be, i, none⟩ = some (.int .i64 fi) := by rw [← hfi]; exact HR.out.2.2.2.1.cell hlt
            have z4 : wr.cell? ⟨bw, ri * 2, none⟩ = some (.int .i64 q1) := by have := HR.out.2.2.2.2.1.at_ ri hrl 0 (.int .i64 q1) (by rw [u1]; rfl); exact this
            have z5 : wr.cell? ⟨bw, ri * 2 + 1, none⟩ = some (.int .i64 q2) := by have := HR.out.2.2.2.2.1.at_ ri hrl 1 (.int .i64 q2) (by rw [u1]; rfl); exact this
            have z6 : wr.cell? ⟨bg, ri, none⟩ = some (.int .i64 fi) := by rw [← u2]; exact HR.out.2.2.2.2.2.cell hrl
            have HZ := Lib.hid (And.intro z1 (And.intro z2 (And.intro z3 (And.intro z4 (And.intro z5 (And.intro z6 (And.intro r1 (And.intro r2 (And.intro r3 r4)))))))))
            clear hq hfi u1 u2 hri z1 z2 z3 z4 z5 z6 r1 r2 r3 r4
            go_wp2_with fail
            obtain ⟨z1, z2, z3, z4, z5, z6, r1, r2, r3, r4⟩ := HZ.out
            have hlz : (i : Int) < (m : Int) := by omega
            have hrz : (ri : Int) < (m : Int) := by omega
            go_quiet (fail)
            go_wp2_with fail
            go_roundg (m - (i + 1))
            case measure => omega
            case rel =>
              have bd : Below wr.heap.size wr (wr.drewN nq) := below_drewN (Below.refl _ _) nq
              exact ⟨i + 1, by go_num, by omega, by omega, below_drewN HR.out.1 nq, HR.out.2.1.bel bd, HR.out.2.2.1.bel bd, row_below HR.out.2.2.2.1 bd, HR.out.2.2.2.2.1.bel bd, row_below HR.out.2.2.2.2.2 bd⟩
          · have hlz : ¬ (i : Int) < (m : Int) := by omega
            obtain rfl : m = i := by omega
            go_wp2_with fail
            with_reducible refine (AW.out _).mono ?_
            rintro r w9 ⟨rfl, b9⟩
            have B9 : Hid (Below w.heap.size w w9) := (HR.out.1).trans (b9.mono (HR.out.1).size)
            clear b9
            go_wp2_with fail
            go_ret
            exact ⟨rfl, B9.out⟩
end Go.Proofs.Ytepfbhigeghjjaa.Q
