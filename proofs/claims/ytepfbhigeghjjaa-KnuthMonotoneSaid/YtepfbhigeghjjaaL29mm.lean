/- KnuthMonotone: the regions that draw. KnuthMonotone: the walk. -/
import Derived.Test.YtepfbhigeghjjaaKPb
import Derived.Test.YtepfbhigeghjjaaQR
import Derived.OpenShut
namespace Go.Proofs.Ytepfbhigeghjjaa.Q
open Go.RowKit Go.Proofs.YtepfbhigeghjjaaW.PrintLast
set_option linter.unusedVariables false
set_option linter.unusedSimpArgs false

theorem two0 (W : World) (a b : Obj) : ((W.alloc a).alloc b).drew.heap[W.heap.size]? = some a := (two_alloc W a b).1
theorem two1 (W : World) (a b : Obj) : ((W.alloc a).alloc b).drew.heap[W.heap.size + 1]? = some b := (two_alloc W a b).2
theorem two_set {wr w1 : World} {ub lb : Nat} (hb : Below wr.heap.size wr w1) (h1 : w1.heap[ub]? = some (.cells #[.int .i64 0, .slice none 0 0] 48 (0, 0))) (h2 : w1.heap[lb]? = some (.cells #[.int .i64 0, .slice none 0 0] 48 (0, 0))) (h3 : wr.heap.size ≤ ub) (h4 : wr.heap.size ≤ lb) (h5 : ub ≠ lb) (n : Int) (A : Option Addr) (len cap : Nat) :
    Below wr.heap.size wr ((w1.setCells ub 0 [.int .i64 n, .slice A len cap]).setCells lb 0 [.int .i64 n, .slice A len cap]) ∧ HBZ ((w1.setCells ub 0 [.int .i64 n, .slice A len cap]).setCells lb 0 [.int .i64 n, .slice A len cap]) ub n len cap A ∧ HBZ ((w1.setCells ub 0 [.int .i64 n, .slice A len cap]).setCells lb 0 [.int .i64 n, .slice A len cap]) lb n len cap A ∧ wr.heap.size ≤ ub ∧ wr.heap.size ≤ lb ∧ ub ≠ lb := by
  have e : (w1.setCells ub 0 [.int .i64 n, .slice A len cap]).setCells lb 0 [.int .i64 n, .slice A len cap] = (((w1.setCell ⟨ub, 0, none⟩ (.int .i64 n)).setCell ⟨ub, 0 + 1, none⟩ (.slice A len cap)).setCell ⟨lb, 0, none⟩ (.int .i64 n)).setCell ⟨lb, 0 + 1, none⟩ (.slice A len cap) := rfl
  rw [e]
  have k1 : ((w1.setCell ⟨ub, 0, none⟩ (.int .i64 n)).setCell ⟨ub, 0 + 1, none⟩ (.slice A len cap)).heap[ub]? = some (.cells #[.int .i64 n, .slice A len cap] 48 (0, 0)) := set_cell (set_cell h1 0 _) 1 _
  have k2 : ((w1.setCell ⟨ub, 0, none⟩ (.int .i64 n)).setCell ⟨ub, 0 + 1, none⟩ (.slice A len cap)).heap[lb]? = some (.cells #[.int .i64 0, .slice none 0 0] 48 (0, 0)) := (eff_setCell _ ub _ _).heap ((eff_setCell _ ub _ _).heap h2 (fun h => h5 h.symm)) (fun h => h5 h.symm)
  refine ⟨?_, (eff_setCell _ lb _ _).heap ((eff_setCell _ lb _ _).heap k1 (fun h => h5 h)) (fun h => h5 h), set_cell (set_cell k2 0 _) 1 _, h3, h4, h5⟩
  exact (((hb.setCell (p := ⟨ub, 0, none⟩) h3 _).setCell (p := ⟨ub, 0 + 1, none⟩) h3 _).setCell (p := ⟨lb, 0, none⟩) h4 _).setCell (p := ⟨lb, 0 + 1, none⟩) h4 _
set_option maxHeartbeats 2000000 in
set_option maxRecDepth 100000 in
theorem mon_r4 {hb len cap : Nat} {n : Int} {A : Option Addr} {Q : Exit → Act → World → Prop} (hp : ∀ c (a : Act) (i : Nat) (v : Value) w, Q (.panic c) (a.put (some i) v) w → Q (.panic c) a w)
    {u0 u1 u2 u4 u5 u6 u7 u8 u9 u10 u11 u12 u13 u14 u15 u16 u17 u18 u19 u20 u21 u22 u23 u24 u25 u26 u27 u28 u29 u30 u31 u32 u33 u34 u35 u36 u37 u38 u39 u40 u41 u42 u43 u44 u45 u46 u47 u48 u49 u50 u51 u52 u53 u54 u55 u56 u57 u58 u59 u60 u61 u62 u63 u64 u65 u66 u67 u68 u69 u70 u71 u72 u73 u74 u75 u76 u77 u78 u79 u80 u81 u82 u83 u84 u85 u86 u87 u88 u89 u90 u91 u92 u93 u94 u95 u96 u97 u98 u99 u100 u101 u102 u103 u104 u105 u106 u107 u108 u109 u110 u111 u112 u113 u114 u115 u116 u117 u118 u119 u120 u121 u122 u123 u124 u125 u126 u127 u128 u129 u130 u131 u132 u133 u134 u135 u136 u137 : Value} {wr : World} (hlt : hb < wr.heap.size) (HR : wr.rangeAt hb 0 [.int .i64 n, .slice A len cap])
    (hQ : ∀ (ub lb : Nat) (w8 : World), (Below wr.heap.size wr w8 ∧ HBZ w8 ub n len cap A ∧ HBZ w8 lb n len cap A ∧ wr.heap.size ≤ ub ∧ wr.heap.size ≤ lb ∧ ub ≠ lb) → ∀ (t33 t34 : Value), Q .normal { tmps := #[u0, u1, u2, .pointer (some ⟨hb, 0, none⟩), u4, u5, u6, u7, .pointer (some ⟨ub, 0, none⟩), .pointer (some ⟨lb, 0, none⟩), u10, u11, u12, u13, u14, u15, u16, u17, u18, u19, u20, u21, u22, u23, u24, u25, u26, u27, u28, u29, u30, u31, u32, t33, t34, u35, u36, u37, u38, u39, u40, u41, u42, u43, u44, u45, u46, u47, u48, u49, u50, u51, u52, u53, u54, u55, u56, u57, u58, u59, u60, u61, u62, u63, u64, u65, u66, u67, u68, u69, u70, u71, u72, u73, u74, u75, u76, u77, u78, u79, u80, u81, u82, u83, u84, u85, u86, u87, u88, u89, u90, u91, u92, u93, u94, u95, u96, u97, u98, u99, u100, u101, u102, u103, u104, u105, u106, u107, u108, u109, u110, u111, u112, u113, u114, u115, u116, u117, u118, u119, u120, u121, u122, u123, u124, u125, u126, u127, u128, u129, u130, u131, u132, u133, u134, u135, u136, u137], defers := [] } (w8)) :
    Code.wp Try.prog (reg (Try.f17) 4) Q { tmps := #[u0, u1, u2, .pointer (some ⟨hb, 0, none⟩), u4, u5, u6, u7, u8, u9, u10, u11, u12, u13, u14, u15, u16, u17, u18, u19, u20, u21, u22, u23, u24, u25, u26, u27, u28, u29, u30, u31, u32, u33, u34, u35, u36, u37, u38, u39, u40, u41, u42, u43, u44, u45, u46, u47, u48, u49, u50, u51, u52, u53, u54, u55, u56, u57, u58, u59, u60, u61, u62, u63, u64, u65, u66, u67, u68, u69, u70, u71, u72, u73, u74, u75, u76, u77, u78, u79, u80, u81, u82, u83, u84, u85, u86, u87, u88, u89, u90, u91, u92, u93, u94, u95, u96, u97, u98, u99, u100, u101, u102, u103, u104, u105, u106, u107, u108, u109, u110, u111, u112, u113, u114, u115, u116, u117, u118, u119, u120, u121, u122, u123, u124, u125, u126, u127, u128, u129, u130, u131, u132, u133, u134, u135, u136, u137], defers := [] } wr := by
  have HQ := Lib.hid hQ
  have HP := Lib.hid hp
  clear hQ hp
  refine start_ (n := 6) (S := fun w' => w'.rangeAt hb 0 [.int .i64 n, .slice A len cap]) (ds := [5]) #[false, false, false, false, false, false] (by kernel_rfl) rfl rfl HR (fun hHeld => ?_)
  refine take_ (i := 0) (N := some 33) (a' := ?_) #[true, false, false, false, false, false] rfl rfl (by kernel_rfl) (fun c a w h => HP.out c a _ _ w h) (yieldsIf_load_mid (by rfl) 48 _ rfl hb 0 (by rfl) [.int .i64 n, .slice A len cap] _ (fun w' h => h) Try.underlying48 rfl (by kernel_rfl)) hHeld ?_ ?_
  rotate_left
  · simp only [Act.put, List.setIfInBounds_toArray, List.set_cons_zero, List.set_cons_succ, i64_w, i32_w]
    rfl
  refine take_ (i := 1) (N := some 34) (a' := ?_) #[true, true, false, false, false, false] rfl rfl (by kernel_rfl) (fun c a w h => HP.out c a _ _ w h) (yieldsIf_load_mid (by rfl) 48 _ rfl hb 0 (by rfl) [.int .i64 n, .slice A len cap] _ (fun w' h => h) Try.underlying48 rfl (by kernel_rfl)) hHeld ?_ ?_
  rotate_left
  · simp only [Act.put, List.setIfInBounds_toArray, List.set_cons_zero, List.set_cons_succ, i64_w, i32_w]
    rfl
  refine join_ (σ := Nat × Nat) 2 #[true, true, true, true, false, false] (fun s => [(8, .pointer (some ⟨s.1, 0, none⟩)), (9, .pointer (some ⟨s.2, 0, none⟩))]) (fun s w' => w'.heap[s.1]? = some (.cells #[.int .i64 0, .slice none 0 0] 48 (0, 0)) ∧ w'.heap[s.2]? = some (.cells #[.int .i64 0, .slice none 0 0] 48 (0, 0)) ∧ Below wr.heap.size wr w' ∧ wr.heap.size ≤ s.1 ∧ wr.heap.size ≤ s.2 ∧ s.1 ≠ s.2 ∧ (w'.rangeAt hb 0 [.int .i64 n, .slice A len cap])) ?_ ?_
  rotate_left
  · intro hCont
    refine two_ (i := 2) (j := 3) (Ni := some 8) (Nj := some 9) #[true, true, true, false, false, false] #[true, true, false, true, false, false] rfl rfl rfl rfl (by kernel_rfl) (by decide) (by decide) (fun K hK => ?_) (fun K hK => ?_)
    · skip
      refine value_ (w1 := ?_) (v := ?_) (by rfl) rfl ?_ ?_
      rotate_left 2
      · go_simp
        constructor
        · rfl
        · rfl
      refine hK.out _ _ (rangeAt_eff hHeld (eff_alloc _ _) (fun h => h)) (fun hHeld => ?_)
      clear hK K
      refine norm_ (a' := ?_) ?_ ?_
      rotate_left
      · show Act.put _ (some 8) _ = _
        simp only [Act.put, List.setIfInBounds_toArray, List.set_cons_zero, List.set_cons_succ, i64_w, i32_w]
        rfl
      refine one_ (i := 3) (N := some 9) #[true, true, true, true, false, false] rfl rfl (by kernel_rfl) (by decide) (fun K hK => ?_)
      refine value_ (w1 := ?_) (v := ?_) (by rfl) rfl ?_ ?_
      rotate_left 2
      · go_simp
        constructor
        · rfl
        · rfl
      refine hK.out _ _ (rangeAt_eff hHeld (eff_alloc _ _) (fun h => h)) (fun hHeld => ?_)
      clear hK K
      refine norm_ (a' := ?_) ?_ ?_
      rotate_left
      · show Act.put _ (some 9) _ = _
        simp only [Act.put, List.setIfInBounds_toArray, List.set_cons_zero, List.set_cons_succ, i64_w, i32_w]
        rfl
      exact norm_ (by simp only [putAll, Act.put, List.setIfInBounds_toArray, List.set_cons_zero, List.set_cons_succ]) (hCont (wr.heap.size, wr.heap.size + 1) _ ⟨(two0 wr _ _), (two1 wr _ _), (((Below.refl _ _).alloc (Nat.le_refl _) _).alloc (by simp) _).drew, (by simp), (by simp), (by simp), hHeld⟩)
    · skip
      refine value_ (w1 := ?_) (v := ?_) (by rfl) rfl ?_ ?_
      rotate_left 2
      · go_simp
        constructor
        · rfl
        · rfl
      refine hK.out _ _ (rangeAt_eff hHeld (eff_alloc _ _) (fun h => h)) (fun hHeld => ?_)
      clear hK K
      refine norm_ (a' := ?_) ?_ ?_
      rotate_left
      · show Act.put _ (some 9) _ = _
        simp only [Act.put, List.setIfInBounds_toArray, List.set_cons_zero, List.set_cons_succ, i64_w, i32_w]
        rfl
      refine one_ (i := 2) (N := some 8) #[true, true, true, true, false, false] rfl rfl (by kernel_rfl) (by decide) (fun K hK => ?_)
      refine value_ (w1 := ?_) (v := ?_) (by rfl) rfl ?_ ?_
      rotate_left 2
      · go_simp
        constructor
        · rfl
        · rfl
      refine hK.out _ _ (rangeAt_eff hHeld (eff_alloc _ _) (fun h => h)) (fun hHeld => ?_)
      clear hK K
      refine norm_ (a' := ?_) ?_ ?_
      rotate_left
      · show Act.put _ (some 8) _ = _
        simp only [Act.put, List.setIfInBounds_toArray, List.set_cons_zero, List.set_cons_succ, i64_w, i32_w]
        rfl
      exact norm_ (by simp only [putAll, Act.put, List.setIfInBounds_toArray, List.set_cons_zero, List.set_cons_succ]) (hCont (wr.heap.size + 1, wr.heap.size) _ ⟨(two1 wr _ _), (two0 wr _ _), (((Below.refl _ _).alloc (Nat.le_refl _) _).alloc (by simp) _).drew, (by simp), (by simp), (by simp), hHeld⟩)
  rintro ⟨ub, lb⟩ w1 ⟨z1, z2, z3, z4, z5, z6, hHeld⟩
  have XX := Lib.hid (And.intro z1 (And.intro z2 (And.intro z3 (And.intro z4 (And.intro z5 z6)))))
  clear z1 z2 z3 z4 z5 z6
  refine norm_ (a' := ?_) ?_ ?_
  rotate_left
  · simp only [putAll, Act.put, List.setIfInBounds_toArray, List.set_cons_zero, List.set_cons_succ]
    rfl
  refine one_ (i := 4) (N := none) #[true, true, true, true, true, false] rfl rfl (by kernel_rfl) (by decide) (fun K hK => ?_)
  refine skip_ (w1 := w1.setCells ub 0 [.int .i64 n, .slice A len cap]) (by rfl) rfl (run_u (run_storeAt_mid _ ub 0 48 #[.int .i64 n, .slice A len cap] (box_there (XX.out.1) rfl) (by kernel_rfl) (by kernel_rfl))) ?_
  refine hK.out _ _ (rangeAt_eff hHeld (eff_setCells ub _ 0 w1).1 (fun h => by have := XX.out.2.2.2.1; omega)) (fun hHeld => ?_)
  clear hK K
  refine last_ (i := 5) (N := none) #[true, true, true, true, true, true] rfl rfl (by kernel_rfl) (by decide) (fun K hK => ?_)
  refine skip_ (w1 := (w1.setCells ub 0 [.int .i64 n, .slice A len cap]).setCells lb 0 [.int .i64 n, .slice A len cap]) (by rfl) rfl (run_u (run_storeAt_mid _ lb 0 48 #[.int .i64 n, .slice A len cap] (box_there ((eff_setCells ub _ 0 w1).1.heap XX.out.2.1 (fun h => XX.out.2.2.2.2.2 h.symm)) rfl) (by kernel_rfl) (by kernel_rfl))) ?_
  refine hK.out _ _ ?_
  clear hK K
  refine done_ (by kernel_rfl) ?_
  exact HQ.out _ _ _ (two_set XX.out.2.2.1 XX.out.1 XX.out.2.1 XX.out.2.2.2.1 XX.out.2.2.2.2.1 XX.out.2.2.2.2.2 _ _ _ _) _ _

set_option maxHeartbeats 2000000 in
set_option maxRecDepth 100000 in
theorem mon_r6 {ub g len c i : Nat} {cost more : Int} {Q : Exit → Act → World → Prop} (hp : ∀ c (a : Act) (i : Nat) (v : Value) w, Q (.panic c) (a.put (some i) v) w → Q (.panic c) a w)
    {u0 u1 u3 u4 u5 u6 u9 u10 u11 u12 u13 u14 u15 u16 u17 u18 u19 u20 u21 u22 u23 u24 u25 u26 u27 u28 u29 u30 u31 u32 u33 u34 u35 u36 u37 u38 u39 u40 u41 u42 u43 u44 u45 u46 u47 u48 u49 u50 u51 u52 u53 u54 u55 u56 u57 u58 u59 u60 u61 u62 u63 u64 u65 u66 u67 u68 u69 u70 u71 u72 u73 u74 u75 u76 u77 u78 u79 u80 u81 u82 u83 u84 u85 u86 u87 u88 u89 u90 u91 u92 u93 u94 u95 u96 u97 u98 u99 u100 u101 u102 u103 u104 u105 u106 u107 u108 u109 u110 u111 u112 u113 u114 u115 u116 u117 u118 u119 u120 u121 u122 u123 u124 u125 u126 u127 u128 u129 u130 u131 u132 u133 u134 u135 u136 u137 : Value} {wr : World} (hlz : (i : Int) < (len : Int)) (hw : IntKind.i64.wrap (cost + more) = cost + more) (hw0 : IntKind.i64.wrap more = more) (U1 : wr.cell? ⟨ub, 1, none⟩ = some (.slice (some ⟨g, 0, none⟩) len c)) (G1 : wr.cell? ⟨g, i * 5 + 2, none⟩ = some (.int .i64 cost)) (FZ : Hid (wr.frozen? ⟨g, i * 5 + 2, none⟩ = false))
    (hQ : ∀ (t40 t41 t42 t43 t44 t45 t46 t47 t48 t49 t50 t51 t52 t53 t54 : Value), Q .normal { tmps := #[u0, u1, .int .u16 more, u3, u4, u5, u6, .int .i64 i, .pointer (some ⟨ub, 0, none⟩), u9, u10, u11, u12, u13, u14, u15, u16, u17, u18, u19, u20, u21, u22, u23, u24, u25, u26, u27, u28, u29, u30, u31, u32, u33, u34, u35, u36, u37, u38, u39, t40, t41, t42, t43, t44, t45, t46, t47, t48, t49, t50, t51, t52, t53, t54, u55, u56, u57, u58, u59, u60, u61, u62, u63, u64, u65, u66, u67, u68, u69, u70, u71, u72, u73, u74, u75, u76, u77, u78, u79, u80, u81, u82, u83, u84, u85, u86, u87, u88, u89, u90, u91, u92, u93, u94, u95, u96, u97, u98, u99, u100, u101, u102, u103, u104, u105, u106, u107, u108, u109, u110, u111, u112, u113, u114, u115, u116, u117, u118, u119, u120, u121, u122, u123, u124, u125, u126, u127, u128, u129, u130, u131, u132, u133, u134, u135, u136, u137], defers := [] } (wr.drew.setCell ⟨g, i * 5 + 2, none⟩ (.int .i64 (if 1099511627776 < cost + more then 1099511627776 else cost + more)))) :
    Code.wp Try.prog (reg (Try.f17) 6) Q { tmps := #[u0, u1, .int .u16 more, u3, u4, u5, u6, .int .i64 i, .pointer (some ⟨ub, 0, none⟩), u9, u10, u11, u12, u13, u14, u15, u16, u17, u18, u19, u20, u21, u22, u23, u24, u25, u26, u27, u28, u29, u30, u31, u32, u33, u34, u35, u36, u37, u38, u39, u40, u41, u42, u43, u44, u45, u46, u47, u48, u49, u50, u51, u52, u53, u54, u55, u56, u57, u58, u59, u60, u61, u62, u63, u64, u65, u66, u67, u68, u69, u70, u71, u72, u73, u74, u75, u76, u77, u78, u79, u80, u81, u82, u83, u84, u85, u86, u87, u88, u89, u90, u91, u92, u93, u94, u95, u96, u97, u98, u99, u100, u101, u102, u103, u104, u105, u106, u107, u108, u109, u110, u111, u112, u113, u114, u115, u116, u117, u118, u119, u120, u121, u122, u123, u124, u125, u126, u127, u128, u129, u130, u131, u132, u133, u134, u135, u136, u137], defers := [] } wr := by
  have HQ := Lib.hid hQ
  have HP := Lib.hid hp
  clear hQ hp
  refine start_ (n := 16) (S := fun w' => w'.cell? ⟨ub, 1, none⟩ = some (.slice (some ⟨g, 0, none⟩) len c) ∧ w'.cell? ⟨g, i * 5 + 2, none⟩ = some (.int .i64 cost)) (ds := [15]) #[false, false, false, false, false, false, false, false, false, false, false, false, false, false, false, false] (by kernel_rfl) rfl rfl ⟨U1, G1⟩ (fun hHeld => ?_)
  refine pure_ (i := 0) (N := some 40) (v := ?_) (a' := ?_) #[true, false, false, false, false, false, false, false, false, false, false, false, false, false, false, false] rfl rfl (by kernel_rfl) (fun c a w h => HP.out c a _ _ w h) (Or.inl ⟨by rfl, ?_⟩) ?_ ?_
  rotate_left
  · intro w'
    go_simp
    with_reducible rfl
  rotate_left
  · simp only [Act.put, List.setIfInBounds_toArray, List.set_cons_zero, List.set_cons_succ, i64_w, i32_w]
    rfl
  refine pure_ (i := 2) (N := some 42) (v := ?_) (a' := ?_) #[true, false, true, false, false, false, false, false, false, false, false, false, false, false, false, false] rfl rfl (by kernel_rfl) (fun c a w h => HP.out c a _ _ w h) (Or.inl ⟨by rfl, ?_⟩) ?_ ?_
  rotate_left
  · intro w'
    go_simp
    with_reducible rfl
  rotate_left
  · simp only [Act.put, List.setIfInBounds_toArray, List.set_cons_zero, List.set_cons_succ, i64_w, i32_w]
    rfl
  refine pure_ (i := 3) (N := some 43) (v := ?_) (a' := ?_) #[true, false, true, true, false, false, false, false, false, false, false, false, false, false, false, false] rfl rfl (by kernel_rfl) (fun c a w h => HP.out c a _ _ w h) (Or.inl ⟨by rfl, ?_⟩) ?_ ?_
  rotate_left
  · intro w'
    go_simp
    with_reducible rfl
  rotate_left
  · simp only [Act.put, List.setIfInBounds_toArray, List.set_cons_zero, List.set_cons_succ, i64_w, i32_w]
    rfl
  refine pure_ (i := 5) (N := some 45) (v := ?_) (a' := ?_) #[true, false, true, true, false, true, false, false, false, false, false, false, false, false, false, false] rfl rfl (by kernel_rfl) (fun c a w h => HP.out c a _ _ w h) (Or.inl ⟨by rfl, ?_⟩) ?_ ?_
  rotate_left
  · intro w'
    go_simp
    with_reducible rfl
  rotate_left
  · simp only [Act.put, List.setIfInBounds_toArray, List.set_cons_zero, List.set_cons_succ, i64_w, i32_w]
    rfl
  refine pure_ (i := 9) (N := some 49) (v := ?_) (a' := ?_) #[true, false, true, true, false, true, false, false, false, true, false, false, false, false, false, false] rfl rfl (by kernel_rfl) (fun c a w h => HP.out c a _ _ w h) (Or.inl ⟨by rfl, ?_⟩) ?_ ?_
  rotate_left
  · intro w'
    go_simp
    with_reducible rfl
  rotate_left
  · simp only [Act.put, List.setIfInBounds_toArray, List.set_cons_zero, List.set_cons_succ, i64_w, i32_w]
    rfl
  refine pure_ (i := 10) (N := some 50) (v := ?_) (a' := ?_) #[true, false, true, true, false, true, false, false, false, true, true, false, false, false, false, false] rfl rfl (by kernel_rfl) (fun c a w h => HP.out c a _ _ w h) (Or.inl ⟨by rfl, ?_⟩) ?_ ?_
  rotate_left
  · intro w'
    go_simp
    with_reducible rfl
  rotate_left
  · simp only [Act.put, List.setIfInBounds_toArray, List.set_cons_zero, List.set_cons_succ, i64_w, i32_w]
    rfl
  refine take_ (i := 1) (N := some 41) (v := ?_) (a' := ?_) #[true, true, true, true, false, true, false, false, false, true, true, false, false, false, false, false] rfl rfl (by kernel_rfl) (fun c a w h => HP.out c a _ _ w h) (Or.inl ⟨by rfl, ?_⟩) hHeld ?_ ?_
  rotate_left
  · rintro w' ⟨s0, s1⟩
    go_simp
    with_reducible rfl
  rotate_left
  · simp only [Act.put, List.setIfInBounds_toArray, List.set_cons_zero, List.set_cons_succ, i64_w, i32_w]
    rfl
  refine take_ (i := 4) (N := some 44) (v := ?_) (a' := ?_) #[true, true, true, true, true, true, false, false, false, true, true, false, false, false, false, false] rfl rfl (by kernel_rfl) (fun c a w h => HP.out c a _ _ w h) (Or.inl ⟨by rfl, ?_⟩) hHeld ?_ ?_
  rotate_left
  · rintro w' ⟨s0, s1⟩
    go_simp
    with_reducible rfl
  rotate_left
  · simp only [Act.put, List.setIfInBounds_toArray, List.set_cons_zero, List.set_cons_succ, i64_w, i32_w]
    rfl
  refine pure_ (i := 6) (N := some 46) (v := ?_) (a' := ?_) #[true, true, true, true, true, true, true, false, false, true, true, false, false, false, false, false] rfl rfl (by kernel_rfl) (fun c a w h => HP.out c a _ _ w h) (Or.inl ⟨by rfl, ?_⟩) ?_ ?_
  rotate_left
  · intro w'
    go_simp
    with_reducible rfl
  rotate_left
  · simp only [Act.put, List.setIfInBounds_toArray, List.set_cons_zero, List.set_cons_succ, i64_w, i32_w]
    rfl
  refine pure_ (i := 7) (N := some 47) (v := ?_) (a' := ?_) #[true, true, true, true, true, true, true, true, false, true, true, false, false, false, false, false] rfl rfl (by kernel_rfl) (fun c a w h => HP.out c a _ _ w h) (Or.inl ⟨by rfl, ?_⟩) ?_ ?_
  rotate_left
  · intro w'
    go_simp
    with_reducible rfl
  rotate_left
  · simp only [Act.put, List.setIfInBounds_toArray, List.set_cons_zero, List.set_cons_succ, i64_w, i32_w]
    rfl
  refine take_ (i := 8) (N := some 48) (v := ?_) (a' := ?_) #[true, true, true, true, true, true, true, true, true, true, true, false, false, false, false, false] rfl rfl (by kernel_rfl) (fun c a w h => HP.out c a _ _ w h) (Or.inl ⟨by rfl, ?_⟩) hHeld ?_ ?_
  rotate_left
  · rintro w' ⟨s0, s1⟩
    go_simp
    with_reducible rfl
  rotate_left
  · simp only [Act.put, List.setIfInBounds_toArray, List.set_cons_zero, List.set_cons_succ, i64_w, i32_w]
    rfl
  refine pure_ (i := 11) (N := some 51) (v := ?_) (a' := ?_) #[true, true, true, true, true, true, true, true, true, true, true, true, false, false, false, false] rfl rfl (by kernel_rfl) (fun c a w h => HP.out c a _ _ w h) (Or.inl ⟨by rfl, ?_⟩) ?_ ?_
  rotate_left
  · intro w'
    go_simp
    with_reducible rfl
  rotate_left
  · simp only [Act.put, List.setIfInBounds_toArray, List.set_cons_zero, List.set_cons_succ, i64_w, i32_w]
    rfl
  refine pure_ (i := 12) (N := some 52) (v := ?_) (a' := ?_) #[true, true, true, true, true, true, true, true, true, true, true, true, true, false, false, false] rfl rfl (by kernel_rfl) (fun c a w h => HP.out c a _ _ w h) (Or.inl ⟨by rfl, ?_⟩) ?_ ?_
  rotate_left
  · intro w'
    go_simp
    with_reducible rfl
  rotate_left
  · simp only [Act.put, List.setIfInBounds_toArray, List.set_cons_zero, List.set_cons_succ, i64_w, i32_w]
    rfl
  refine pure_ (i := 13) (N := some 53) (v := ?_) (a' := ?_) #[true, true, true, true, true, true, true, true, true, true, true, true, true, true, false, false] rfl rfl (by kernel_rfl) (fun c a w h => HP.out c a _ _ w h) (Or.inl ⟨by rfl, ?_⟩) ?_ ?_
  rotate_left
  · intro w'
    go_simp
    with_reducible rfl
  rotate_left
  · simp only [Act.put, List.setIfInBounds_toArray, List.set_cons_zero, List.set_cons_succ, i64_w, i32_w]
    rfl
  refine pure_ (i := 14) (N := some 54) (v := ?_) (a' := ?_) #[true, true, true, true, true, true, true, true, true, true, true, true, true, true, true, false] rfl rfl (by kernel_rfl) (fun c a w h => HP.out c a _ _ w h) (Or.inl ⟨by rfl, ?_⟩) ?_ ?_
  rotate_left
  · intro w'
    go_simp
    with_reducible rfl
  rotate_left
  · simp only [Act.put, List.setIfInBounds_toArray, List.set_cons_zero, List.set_cons_succ, i64_w, i32_w]
    rfl
  refine last_ (i := 15) (N := none) #[true, true, true, true, true, true, true, true, true, true, true, true, true, true, true, true] rfl rfl (by kernel_rfl) (by decide) (fun K hK => ?_)
  refine skip_ (w1 := wr.drew.setCell ⟨g, i * 5 + 2, none⟩ (.int .i64 (if 1099511627776 < cost + more then 1099511627776 else cost + more))) (by rfl) rfl (run_u (run_storeAt_one (w := wr.drew) (by kernel_rfl) rfl (o := .int .i64 cost) hHeld.2 FZ.out)) ?_
  refine hK.out _ _ ?_
  clear hK K
  refine done_ (by kernel_rfl) ?_
  exact HQ.out _ _ _ _ _ _ _ _ _ _ _ _ _ _ _

set_option maxHeartbeats 2000000 in
set_option maxRecDepth 100000 in
theorem mon_r7 {hb lb eb eo len cap i c1 c2 n1 n2 : Nat} {A1 A2 : Option Addr} {W1 W2 : World} {Q : Exit → Act → World → Prop} (hp : ∀ c (a : Act) (i : Nat) (v : Value) w, Q (.panic c) (a.put (some i) v) w → Q (.panic c) a w)
    {u0 u1 u2 u4 u5 u6 u8 u10 u11 u12 u13 u14 u15 u16 u17 u18 u19 u20 u21 u22 u23 u24 u25 u26 u27 u28 u29 u30 u31 u32 u33 u34 u35 u36 u37 u38 u39 u40 u41 u42 u43 u44 u45 u46 u47 u48 u49 u50 u51 u52 u53 u54 u55 u56 u57 u58 u59 u60 u61 u62 u63 u64 u65 u66 u67 u68 u69 u70 u71 u72 u73 u74 u75 u76 u77 u78 u79 u80 u81 u82 u83 u84 u85 u86 u87 u88 u89 u90 u91 u92 u93 u94 u95 u96 u97 u98 u99 u100 u101 u102 u103 u104 u105 u106 u107 u108 u109 u110 u111 u112 u113 u114 u115 u116 u117 u118 u119 u120 u121 u122 u123 u124 u125 u126 u127 u128 u129 u130 u131 u132 u133 u134 u135 u136 u137 : Value} {wr : World} (hic : i ≤ cap) (h0 : (0 : Int) ≤ (i : Int) + 1) (hle : (i : Int) + 1 ≤ (len : Int)) (hw : IntKind.i64.wrap ((i : Int) + 1) = (i : Int) + 1) (H1 : wr.cell? ⟨hb, 1, none⟩ = some (.slice (some ⟨eb, eo, none⟩) len cap)) (AP1 : Hid ((Builtin.append_ #[46, 46] 46 #[.slice (some ⟨wr.heap.size, 0, none⟩) 0 0, .slice (some ⟨eb, eo, none⟩) i cap]).run Try.prog (wr.alloc (.cells #[] 60)).drew = .ok (.slice A1 n1 c1) W1)) (K1 : Hid (W1.cell? ⟨hb, 1, none⟩ = some (.slice (some ⟨eb, eo, none⟩) len cap))) (AP2 : Hid ((Builtin.append_ #[46, 46] 46 #[.slice A1 n1 c1, .slice (if cap = i + 1 then some ⟨eb, eo, none⟩ else some ⟨eb, eo + (i + 1) * 5, none⟩) (len - (i + 1)) (cap - (i + 1))]).run Try.prog W1 = .ok (.slice A2 n2 c2) W2)) (L1 : Hid (∃ o, W2.cell? ⟨lb, 1, none⟩ = some o ∧ o.oneCell' = true)) (LF : Hid (W2.frozen? ⟨lb, 1, none⟩ = false))
    (hQ : ∀ (t55 t56 t57 t58 t59 t60 t61 t62 t63 t64 t65 t66 t67 : Value), Q .normal { tmps := #[u0, u1, u2, .pointer (some ⟨hb, 0, none⟩), u4, u5, u6, .int .i64 i, u8, .pointer (some ⟨lb, 0, none⟩), u10, u11, u12, u13, u14, u15, u16, u17, u18, u19, u20, u21, u22, u23, u24, u25, u26, u27, u28, u29, u30, u31, u32, u33, u34, u35, u36, u37, u38, u39, u40, u41, u42, u43, u44, u45, u46, u47, u48, u49, u50, u51, u52, u53, u54, t55, t56, t57, t58, t59, t60, t61, t62, t63, t64, t65, t66, t67, u68, u69, u70, u71, u72, u73, u74, u75, u76, u77, u78, u79, u80, u81, u82, u83, u84, u85, u86, u87, u88, u89, u90, u91, u92, u93, u94, u95, u96, u97, u98, u99, u100, u101, u102, u103, u104, u105, u106, u107, u108, u109, u110, u111, u112, u113, u114, u115, u116, u117, u118, u119, u120, u121, u122, u123, u124, u125, u126, u127, u128, u129, u130, u131, u132, u133, u134, u135, u136, u137], defers := [] } (W2.setCell ⟨lb, 1, none⟩ (.slice A2 n2 c2))) :
    Code.wp Try.prog (reg (Try.f17) 7) Q { tmps := #[u0, u1, u2, .pointer (some ⟨hb, 0, none⟩), u4, u5, u6, .int .i64 i, u8, .pointer (some ⟨lb, 0, none⟩), u10, u11, u12, u13, u14, u15, u16, u17, u18, u19, u20, u21, u22, u23, u24, u25, u26, u27, u28, u29, u30, u31, u32, u33, u34, u35, u36, u37, u38, u39, u40, u41, u42, u43, u44, u45, u46, u47, u48, u49, u50, u51, u52, u53, u54, u55, u56, u57, u58, u59, u60, u61, u62, u63, u64, u65, u66, u67, u68, u69, u70, u71, u72, u73, u74, u75, u76, u77, u78, u79, u80, u81, u82, u83, u84, u85, u86, u87, u88, u89, u90, u91, u92, u93, u94, u95, u96, u97, u98, u99, u100, u101, u102, u103, u104, u105, u106, u107, u108, u109, u110, u111, u112, u113, u114, u115, u116, u117, u118, u119, u120, u121, u122, u123, u124, u125, u126, u127, u128, u129, u130, u131, u132, u133, u134, u135, u136, u137], defers := [] } wr := by
  have HQ := Lib.hid hQ
  have HP := Lib.hid hp
  clear hQ hp
  refine start_ (n := 14) (S := fun w' => w'.cell? ⟨hb, 1, none⟩ = some (.slice (some ⟨eb, eo, none⟩) len cap)) (ds := [11, 13]) #[false, false, false, false, false, false, false, false, false, false, false, false, false, false] (by kernel_rfl) rfl rfl H1 (fun hHeld => ?_)
  refine pure_ (i := 1) (N := some 56) (v := ?_) (a' := ?_) #[false, true, false, false, false, false, false, false, false, false, false, false, false, false] rfl rfl (by kernel_rfl) (fun c a w h => HP.out c a _ _ w h) (Or.inl ⟨by rfl, ?_⟩) ?_ ?_
  rotate_left
  · intro w'
    go_simp
    with_reducible rfl
  rotate_left
  · simp only [Act.put, List.setIfInBounds_toArray, List.set_cons_zero, List.set_cons_succ, i64_w, i32_w]
    rfl
  refine pure_ (i := 3) (N := some 58) (v := ?_) (a' := ?_) #[false, true, false, true, false, false, false, false, false, false, false, false, false, false] rfl rfl (by kernel_rfl) (fun c a w h => HP.out c a _ _ w h) (Or.inl ⟨by rfl, ?_⟩) ?_ ?_
  rotate_left
  · intro w'
    go_simp
    with_reducible rfl
  rotate_left
  · simp only [Act.put, List.setIfInBounds_toArray, List.set_cons_zero, List.set_cons_succ, i64_w, i32_w]
    rfl
  refine pure_ (i := 6) (N := some 61) (v := ?_) (a' := ?_) #[false, true, false, true, false, false, true, false, false, false, false, false, false, false] rfl rfl (by kernel_rfl) (fun c a w h => HP.out c a _ _ w h) (Or.inl ⟨by rfl, ?_⟩) ?_ ?_
  rotate_left
  · intro w'
    go_simp
    with_reducible rfl
  rotate_left
  · simp only [Act.put, List.setIfInBounds_toArray, List.set_cons_zero, List.set_cons_succ, i64_w, i32_w]
    rfl
  refine pure_ (i := 8) (N := some 63) (v := ?_) (a' := ?_) #[false, true, false, true, false, false, true, false, true, false, false, false, false, false] rfl rfl (by kernel_rfl) (fun c a w h => HP.out c a _ _ w h) (Or.inl ⟨by rfl, ?_⟩) ?_ ?_
  rotate_left
  · intro w'
    go_simp
    with_reducible rfl
  rotate_left
  · simp only [Act.put, List.setIfInBounds_toArray, List.set_cons_zero, List.set_cons_succ, i64_w, i32_w]
    rfl
  refine pure_ (i := 9) (N := some 64) (v := ?_) (a' := ?_) #[false, true, false, true, false, false, true, false, true, true, false, false, false, false] rfl rfl (by kernel_rfl) (fun c a w h => HP.out c a _ _ w h) (Or.inl ⟨by rfl, ?_⟩) ?_ ?_
  rotate_left
  · intro w'
    go_simp
    with_reducible rfl
  rotate_left
  · simp only [Act.put, List.setIfInBounds_toArray, List.set_cons_zero, List.set_cons_succ, i64_w, i32_w]
    rfl
  refine take_ (i := 2) (N := some 57) (v := ?_) (a' := ?_) #[false, true, true, true, false, false, true, false, true, true, false, false, false, false] rfl rfl (by kernel_rfl) (fun c a w h => HP.out c a _ _ w h) (Or.inl ⟨by rfl, ?_⟩) hHeld ?_ ?_
  rotate_left
  · rintro w' s0
    go_simp
    with_reducible rfl
  rotate_left
  · simp only [Act.put, List.setIfInBounds_toArray, List.set_cons_zero, List.set_cons_succ, i64_w, i32_w]
    rfl
  refine pure_ (i := 4) (N := some 59) (v := ?_) (a' := ?_) #[false, true, true, true, true, false, true, false, true, true, false, false, false, false] rfl rfl (by kernel_rfl) (fun c a w h => HP.out c a _ _ w h) (Or.inl ⟨by rfl, ?_⟩) ?_ ?_
  rotate_left
  · intro w'
    go_simp
    with_reducible rfl
  rotate_left
  · simp only [Act.put, List.setIfInBounds_toArray, List.set_cons_zero, List.set_cons_succ, i64_w, i32_w]
    rfl
  refine take_ (i := 7) (N := some 62) (v := ?_) (a' := ?_) #[false, true, true, true, true, false, true, true, true, true, false, false, false, false] rfl rfl (by kernel_rfl) (fun c a w h => HP.out c a _ _ w h) (Or.inl ⟨by rfl, ?_⟩) hHeld ?_ ?_
  rotate_left
  · rintro w' s0
    go_simp
    with_reducible rfl
  rotate_left
  · simp only [Act.put, List.setIfInBounds_toArray, List.set_cons_zero, List.set_cons_succ, i64_w, i32_w]
    rfl
  refine pure_ (i := 10) (N := some 65) (v := ?_) (a' := ?_) #[false, true, true, true, true, false, true, true, true, true, true, false, false, false] rfl rfl (by kernel_rfl) (fun c a w h => HP.out c a _ _ w h) (Or.inl ⟨by rfl, ?_⟩) ?_ ?_
  rotate_left
  · intro w'
    go_simp
    with_reducible rfl
  rotate_left
  · simp only [Act.put, List.setIfInBounds_toArray, List.set_cons_zero, List.set_cons_succ, i64_w, i32_w]
    rfl
  refine one_ (i := 0) (N := some 55) #[true, true, true, true, true, false, true, true, true, true, true, false, false, false] rfl rfl (by kernel_rfl) (by decide) (fun K hK => ?_)
  refine value_ (w1 := ?_) (v := ?_) (by rfl) rfl ?_ ?_
  rotate_left 2
  · go_simp
    constructor
    · rfl
    · rfl
  refine hK.out _ _ ((eff_alloc _ _).cell hHeld (fun h => h)) (fun hHeld => ?_)
  clear hK K
  refine norm_ (a' := ?_) ?_ ?_
  rotate_left
  · show Act.put _ (some 55) _ = _
    simp only [Act.put, List.setIfInBounds_toArray, List.set_cons_zero, List.set_cons_succ, i64_w, i32_w]
    rfl
  refine one_ (i := 5) (N := some 60) #[true, true, true, true, true, true, true, true, true, true, true, false, false, false] rfl rfl (by kernel_rfl) (by decide) (fun K hK => ?_)
  refine value_ (w1 := W1) (v := .slice A1 n1 c1) (by rfl) rfl (exec_append rfl (by rfl) (by rfl) AP1.out) ?_
  refine hK.out _ _ K1.out (fun hHeld => ?_)
  clear hK K
  refine norm_ (a' := ?_) ?_ ?_
  rotate_left
  · show Act.put _ (some 60) _ = _
    simp only [Act.put, List.setIfInBounds_toArray, List.set_cons_zero, List.set_cons_succ, i64_w, i32_w]
    rfl
  refine last_ (i := 11) (N := some 66) #[true, true, true, true, true, true, true, true, true, true, true, true, false, false] rfl rfl (by kernel_rfl) (by decide) (fun K hK => ?_)
  refine value_ (w1 := W2) (v := .slice A2 n2 c2) (by rfl) rfl (exec_append rfl (by rfl) (by rfl) AP2.out) ?_
  refine hK.out _ _ ?_
  clear hK K
  refine norm_ (a' := ?_) ?_ ?_
  rotate_left
  · show Act.put _ (some 66) _ = _
    simp only [Act.put, List.setIfInBounds_toArray, List.set_cons_zero, List.set_cons_succ, i64_w, i32_w]
    rfl
  refine pure_ (i := 12) (N := some 67) (v := ?_) (a' := ?_) #[true, true, true, true, true, true, true, true, true, true, true, true, true, false] rfl rfl (by kernel_rfl) (fun c a w h => HP.out c a _ _ w h) (Or.inl ⟨by rfl, ?_⟩) ?_ ?_
  rotate_left
  · intro w'
    go_simp
    with_reducible rfl
  rotate_left
  · simp only [Act.put, List.setIfInBounds_toArray, List.set_cons_zero, List.set_cons_succ, i64_w, i32_w]
    rfl
  refine last_ (i := 13) (N := none) #[true, true, true, true, true, true, true, true, true, true, true, true, true, true] rfl rfl (by kernel_rfl) (by decide) (fun K hK => ?_)
  obtain ⟨lo, lo1, lo2⟩ := L1.out
  refine skip_ (w1 := W2.setCell ⟨lb, 1, none⟩ (.slice A2 n2 c2)) (by rfl) rfl (run_u (run_storeAt_one (w := W2) (by kernel_rfl) rfl (o := lo) lo1 LF.out)) ?_
  refine hK.out _ _ ?_
  clear hK K
  refine done_ (by kernel_rfl) ?_
  exact HQ.out _ _ _ _ _ _ _ _ _ _ _ _ _

set_option maxHeartbeats 2000000 in
set_option maxRecDepth 100000 in
theorem mon_r18 {ba bv bb m i : Nat} {a1 a2 v1 v2 b1 b2 : Int} {Q : Exit → Act → World → Prop} (hp : ∀ c (a : Act) (i : Nat) (v : Value) w, Q (.panic c) (a.put (some i) v) w → Q (.panic c) a w)
    {u0 u1 u2 u3 u4 u5 u6 u7 u8 u9 u11 u13 u15 u17 u18 u19 u20 u21 u22 u23 u24 u25 u26 u27 u28 u29 u30 u31 u32 u33 u34 u35 u36 u37 u38 u39 u40 u41 u42 u43 u44 u45 u46 u47 u48 u49 u50 u51 u52 u53 u54 u55 u56 u57 u58 u59 u60 u61 u62 u63 u64 u65 u66 u67 u68 u69 u70 u71 u72 u73 u74 u75 u76 u77 u78 u79 u80 u81 u82 u83 u84 u85 u86 u87 u88 u89 u90 u91 u92 u93 u94 u95 u96 u97 u98 u99 u100 u101 u102 u103 u104 u105 u106 u107 u108 u109 u110 u111 u112 u113 u114 u115 u116 u117 u118 u119 u120 u121 u122 u123 u124 u125 u126 u127 u128 u129 u130 u131 u132 u133 u134 u135 u136 u137 : Value} {wr : World} (hlz : (i : Int) < (m : Int)) (hL : decide (a1 < v1 ∨ a1 = v1 ∧ a2 < v2) = false) (hM : decide (b1 < a1 ∨ b1 = a1 ∧ b2 < a2) = false) (AR : wr.rangeAt ba (i * 2) [.int .i64 a1, .int .i64 a2]) (VR : wr.rangeAt bv (i * 2) [.int .i64 v1, .int .i64 v2]) (BR : wr.rangeAt bb (i * 2) [.int .i64 b1, .int .i64 b2])
    (hQ : ∀ (w8 : World), Below wr.heap.size wr w8 → ∀ (t117 t118 t119 t120 t121 t122 t123 t124 t125 t126 t127 t128 t129 t130 t131 t132 t133 t134 t135 : Value), Q .normal { tmps := #[u0, u1, u2, u3, u4, u5, u6, u7, u8, u9, .slice (some ⟨bv, 0, none⟩) m m, u11, .slice (some ⟨ba, 0, none⟩) m m, u13, .slice (some ⟨bb, 0, none⟩) m m, u15, .int .i64 i, u17, u18, u19, u20, u21, u22, u23, u24, u25, u26, u27, u28, u29, u30, u31, u32, u33, u34, u35, u36, u37, u38, u39, u40, u41, u42, u43, u44, u45, u46, u47, u48, u49, u50, u51, u52, u53, u54, u55, u56, u57, u58, u59, u60, u61, u62, u63, u64, u65, u66, u67, u68, u69, u70, u71, u72, u73, u74, u75, u76, u77, u78, u79, u80, u81, u82, u83, u84, u85, u86, u87, u88, u89, u90, u91, u92, u93, u94, u95, u96, u97, u98, u99, u100, u101, u102, u103, u104, u105, u106, u107, u108, u109, u110, u111, u112, u113, u114, u115, u116, t117, t118, t119, t120, t121, t122, t123, t124, t125, t126, t127, t128, t129, t130, t131, t132, t133, t134, t135, .bool false, u137], defers := [] } (w8)) :
    Code.wp Try.prog (reg (Try.f17) 18) Q { tmps := #[u0, u1, u2, u3, u4, u5, u6, u7, u8, u9, .slice (some ⟨bv, 0, none⟩) m m, u11, .slice (some ⟨ba, 0, none⟩) m m, u13, .slice (some ⟨bb, 0, none⟩) m m, u15, .int .i64 i, u17, u18, u19, u20, u21, u22, u23, u24, u25, u26, u27, u28, u29, u30, u31, u32, u33, u34, u35, u36, u37, u38, u39, u40, u41, u42, u43, u44, u45, u46, u47, u48, u49, u50, u51, u52, u53, u54, u55, u56, u57, u58, u59, u60, u61, u62, u63, u64, u65, u66, u67, u68, u69, u70, u71, u72, u73, u74, u75, u76, u77, u78, u79, u80, u81, u82, u83, u84, u85, u86, u87, u88, u89, u90, u91, u92, u93, u94, u95, u96, u97, u98, u99, u100, u101, u102, u103, u104, u105, u106, u107, u108, u109, u110, u111, u112, u113, u114, u115, u116, u117, u118, u119, u120, u121, u122, u123, u124, u125, u126, u127, u128, u129, u130, u131, u132, u133, u134, u135, u136, u137], defers := [] } wr := by
  have HQ := Lib.hid hQ
  have HP := Lib.hid hp
  clear hQ hp
  have CA : Hid (∀ W : World, Calls Try.prog 43 #[.agg #[.int .i64 a1, .int .i64 a2], .agg #[.int .i64 v1, .int .i64 v2]] W fun r w' => r = .returned (.bool false) ∧ Below W.heap.size W w') := fun W => by
    have := less43 a1 a2 v1 v2 W
    rwa [hL] at this
  have CB : Hid (∀ W : World, Calls Try.prog 43 #[.agg #[.int .i64 b1, .int .i64 b2], .agg #[.int .i64 a1, .int .i64 a2]] W fun r w' => r = .returned (.bool false) ∧ Below W.heap.size W w') := fun W => by
    have := less43 b1 b2 a1 a2 W
    rwa [hM] at this
  clear hL hM
  refine start_ (n := 20) (S := fun w' => w'.rangeAt ba (i * 2) [.int .i64 a1, .int .i64 a2] ∧ w'.rangeAt bv (i * 2) [.int .i64 v1, .int .i64 v2] ∧ w'.rangeAt bb (i * 2) [.int .i64 b1, .int .i64 b2]) (ds := []) #[false, false, false, false, false, false, false, false, false, false, false, false, false, false, false, false, false, false, false, false] (by kernel_rfl) rfl rfl ⟨AR, VR, BR⟩ (fun hHeld => ?_)
  refine pure_ (i := 0) (N := some 117) (v := ?_) (a' := ?_) #[true, false, false, false, false, false, false, false, false, false, false, false, false, false, false, false, false, false, false, false] rfl rfl (by kernel_rfl) (fun c a w h => HP.out c a _ _ w h) (Or.inl ⟨by rfl, ?_⟩) ?_ ?_
  rotate_left
  · intro w'
    go_simp
    with_reducible rfl
  rotate_left
  · simp only [Act.put, List.setIfInBounds_toArray, List.set_cons_zero, List.set_cons_succ, i64_w, i32_w]
    rfl
  refine pure_ (i := 1) (N := some 118) (v := ?_) (a' := ?_) #[true, true, false, false, false, false, false, false, false, false, false, false, false, false, false, false, false, false, false, false] rfl rfl (by kernel_rfl) (fun c a w h => HP.out c a _ _ w h) (Or.inl ⟨by rfl, ?_⟩) ?_ ?_
  rotate_left
  · intro w'
    go_simp
    with_reducible rfl
  rotate_left
  · simp only [Act.put, List.setIfInBounds_toArray, List.set_cons_zero, List.set_cons_succ, i64_w, i32_w]
    rfl
  refine pure_ (i := 2) (N := some 119) (v := ?_) (a' := ?_) #[true, true, true, false, false, false, false, false, false, false, false, false, false, false, false, false, false, false, false, false] rfl rfl (by kernel_rfl) (fun c a w h => HP.out c a _ _ w h) (Or.inl ⟨by rfl, ?_⟩) ?_ ?_
  rotate_left
  · intro w'
    go_simp
    with_reducible rfl
  rotate_left
  · simp only [Act.put, List.setIfInBounds_toArray, List.set_cons_zero, List.set_cons_succ, i64_w, i32_w]
    rfl
  refine pure_ (i := 4) (N := some 121) (v := ?_) (a' := ?_) #[true, true, true, false, true, false, false, false, false, false, false, false, false, false, false, false, false, false, false, false] rfl rfl (by kernel_rfl) (fun c a w h => HP.out c a _ _ w h) (Or.inl ⟨by rfl, ?_⟩) ?_ ?_
  rotate_left
  · intro w'
    go_simp
    with_reducible rfl
  rotate_left
  · simp only [Act.put, List.setIfInBounds_toArray, List.set_cons_zero, List.set_cons_succ, i64_w, i32_w]
    rfl
  refine pure_ (i := 5) (N := some 122) (v := ?_) (a' := ?_) #[true, true, true, false, true, true, false, false, false, false, false, false, false, false, false, false, false, false, false, false] rfl rfl (by kernel_rfl) (fun c a w h => HP.out c a _ _ w h) (Or.inl ⟨by rfl, ?_⟩) ?_ ?_
  rotate_left
  · intro w'
    go_simp
    with_reducible rfl
  rotate_left
  · simp only [Act.put, List.setIfInBounds_toArray, List.set_cons_zero, List.set_cons_succ, i64_w, i32_w]
    rfl
  refine pure_ (i := 6) (N := some 123) (v := ?_) (a' := ?_) #[true, true, true, false, true, true, true, false, false, false, false, false, false, false, false, false, false, false, false, false] rfl rfl (by kernel_rfl) (fun c a w h => HP.out c a _ _ w h) (Or.inl ⟨by rfl, ?_⟩) ?_ ?_
  rotate_left
  · intro w'
    go_simp
    with_reducible rfl
  rotate_left
  · simp only [Act.put, List.setIfInBounds_toArray, List.set_cons_zero, List.set_cons_succ, i64_w, i32_w]
    rfl
  refine take_ (i := 3) (N := some 120) (a' := ?_) #[true, true, true, true, true, true, true, false, false, false, false, false, false, false, false, false, false, false, false, false] rfl rfl (by kernel_rfl) (fun c a w h => HP.out c a _ _ w h) (yieldsIf_load_mid (by rfl) 54 _ rfl ba (i * 2) (by rfl) [.int .i64 a1, .int .i64 a2] _ (fun w' h => h.1) Try.underlying54 rfl (by kernel_rfl)) hHeld ?_ ?_
  rotate_left
  · simp only [Act.put, List.setIfInBounds_toArray, List.set_cons_zero, List.set_cons_succ, i64_w, i32_w]
    rfl
  refine take_ (i := 7) (N := some 124) (a' := ?_) #[true, true, true, true, true, true, true, true, false, false, false, false, false, false, false, false, false, false, false, false] rfl rfl (by kernel_rfl) (fun c a w h => HP.out c a _ _ w h) (yieldsIf_load_mid (by rfl) 54 _ rfl bv (i * 2) (by rfl) [.int .i64 v1, .int .i64 v2] _ (fun w' h => h.2.1) Try.underlying54 rfl (by kernel_rfl)) hHeld ?_ ?_
  rotate_left
  · simp only [Act.put, List.setIfInBounds_toArray, List.set_cons_zero, List.set_cons_succ, i64_w, i32_w]
    rfl
  refine one_ (i := 8) (N := some 125) #[true, true, true, true, true, true, true, true, true, false, false, false, false, false, false, false, false, false, false, false] rfl rfl (by kernel_rfl) (by decide) (fun K hK => ?_)
  refine goesV_ Try.func43 (by kernel_rfl) rfl #[.agg #[.int .i64 a1, .int .i64 a2], .agg #[.int .i64 v1, .int .i64 v2]] (by rfl) rfl rfl (by rfl) (by simp only [List.map_toArray, List.map_cons, List.map_nil]; rfl) ?_
  with_reducible refine (CA.out _).mono ?_
  rintro r w5 ⟨rfl, b⟩
  have BBw5 : Hid (Below wr.heap.size wr w5) := ((Below.refl wr.heap.size wr).drew).trans (b.mono ((Below.refl wr.heap.size wr).drew).size)
  have ew5 := Eff.of_below b (fun _ => False)
  clear b
  refine ⟨_, rfl, ?_⟩
  refine hK.out _ _ ⟨(rangeAt_eff hHeld.1 ew5 (fun h => h)), (rangeAt_eff hHeld.2.1 ew5 (fun h => h)), (rangeAt_eff hHeld.2.2 ew5 (fun h => h))⟩ (fun hHeld => ?_)
  clear hK K
  refine norm_ (a' := ?_) ?_ ?_
  rotate_left
  · show Act.put _ (some 125) _ = _
    simp only [Act.put, List.setIfInBounds_toArray, List.set_cons_zero, List.set_cons_succ, i64_w, i32_w]
    rfl
  refine pure_ (i := 9) (N := some 126) (v := ?_) (a' := ?_) #[true, true, true, true, true, true, true, true, true, true, false, false, false, false, false, false, false, false, false, false] rfl rfl (by kernel_rfl) (fun c a w h => HP.out c a _ _ w h) (Or.inl ⟨by rfl, ?_⟩) ?_ ?_
  rotate_left
  · intro w'
    go_simp
    with_reducible rfl
  rotate_left
  · simp only [Act.put, List.setIfInBounds_toArray, List.set_cons_zero, List.set_cons_succ, i64_w, i32_w]
    rfl
  refine pure_ (i := 10) (N := some 127) (v := ?_) (a' := ?_) #[true, true, true, true, true, true, true, true, true, true, true, false, false, false, false, false, false, false, false, false] rfl rfl (by kernel_rfl) (fun c a w h => HP.out c a _ _ w h) (Or.inl ⟨by rfl, ?_⟩) ?_ ?_
  rotate_left
  · intro w'
    go_simp
    with_reducible rfl
  rotate_left
  · simp only [Act.put, List.setIfInBounds_toArray, List.set_cons_zero, List.set_cons_succ, i64_w, i32_w]
    rfl
  refine pure_ (i := 11) (N := some 128) (v := ?_) (a' := ?_) #[true, true, true, true, true, true, true, true, true, true, true, true, false, false, false, false, false, false, false, false] rfl rfl (by kernel_rfl) (fun c a w h => HP.out c a _ _ w h) (Or.inl ⟨by rfl, ?_⟩) ?_ ?_
  rotate_left
  · intro w'
    go_simp
    with_reducible rfl
  rotate_left
  · simp only [Act.put, List.setIfInBounds_toArray, List.set_cons_zero, List.set_cons_succ, i64_w, i32_w]
    rfl
  refine pure_ (i := 12) (N := some 129) (v := ?_) (a' := ?_) #[true, true, true, true, true, true, true, true, true, true, true, true, true, false, false, false, false, false, false, false] rfl rfl (by kernel_rfl) (fun c a w h => HP.out c a _ _ w h) (Or.inl ⟨by rfl, ?_⟩) ?_ ?_
  rotate_left
  · intro w'
    go_simp
    with_reducible rfl
  rotate_left
  · simp only [Act.put, List.setIfInBounds_toArray, List.set_cons_zero, List.set_cons_succ, i64_w, i32_w]
    rfl
  refine pure_ (i := 14) (N := some 131) (v := ?_) (a' := ?_) #[true, true, true, true, true, true, true, true, true, true, true, true, true, false, true, false, false, false, false, false] rfl rfl (by kernel_rfl) (fun c a w h => HP.out c a _ _ w h) (Or.inl ⟨by rfl, ?_⟩) ?_ ?_
  rotate_left
  · intro w'
    go_simp
    with_reducible rfl
  rotate_left
  · simp only [Act.put, List.setIfInBounds_toArray, List.set_cons_zero, List.set_cons_succ, i64_w, i32_w]
    rfl
  refine pure_ (i := 15) (N := some 132) (v := ?_) (a' := ?_) #[true, true, true, true, true, true, true, true, true, true, true, true, true, false, true, true, false, false, false, false] rfl rfl (by kernel_rfl) (fun c a w h => HP.out c a _ _ w h) (Or.inl ⟨by rfl, ?_⟩) ?_ ?_
  rotate_left
  · intro w'
    go_simp
    with_reducible rfl
  rotate_left
  · simp only [Act.put, List.setIfInBounds_toArray, List.set_cons_zero, List.set_cons_succ, i64_w, i32_w]
    rfl
  refine pure_ (i := 16) (N := some 133) (v := ?_) (a' := ?_) #[true, true, true, true, true, true, true, true, true, true, true, true, true, false, true, true, true, false, false, false] rfl rfl (by kernel_rfl) (fun c a w h => HP.out c a _ _ w h) (Or.inl ⟨by rfl, ?_⟩) ?_ ?_
  rotate_left
  · intro w'
    go_simp
    with_reducible rfl
  rotate_left
  · simp only [Act.put, List.setIfInBounds_toArray, List.set_cons_zero, List.set_cons_succ, i64_w, i32_w]
    rfl
  refine take_ (i := 13) (N := some 130) (a' := ?_) #[true, true, true, true, true, true, true, true, true, true, true, true, true, true, true, true, true, false, false, false] rfl rfl (by kernel_rfl) (fun c a w h => HP.out c a _ _ w h) (yieldsIf_load_mid (by rfl) 54 _ rfl bb (i * 2) (by rfl) [.int .i64 b1, .int .i64 b2] _ (fun w' h => h.2.2) Try.underlying54 rfl (by kernel_rfl)) hHeld ?_ ?_
  rotate_left
  · simp only [Act.put, List.setIfInBounds_toArray, List.set_cons_zero, List.set_cons_succ, i64_w, i32_w]
    rfl
  refine take_ (i := 17) (N := some 134) (a' := ?_) #[true, true, true, true, true, true, true, true, true, true, true, true, true, true, true, true, true, true, false, false] rfl rfl (by kernel_rfl) (fun c a w h => HP.out c a _ _ w h) (yieldsIf_load_mid (by rfl) 54 _ rfl ba (i * 2) (by rfl) [.int .i64 a1, .int .i64 a2] _ (fun w' h => h.1) Try.underlying54 rfl (by kernel_rfl)) hHeld ?_ ?_
  rotate_left
  · simp only [Act.put, List.setIfInBounds_toArray, List.set_cons_zero, List.set_cons_succ, i64_w, i32_w]
    rfl
  refine one_ (i := 18) (N := some 135) #[true, true, true, true, true, true, true, true, true, true, true, true, true, true, true, true, true, true, true, false] rfl rfl (by kernel_rfl) (by decide) (fun K hK => ?_)
  refine goesV_ Try.func43 (by kernel_rfl) rfl #[.agg #[.int .i64 b1, .int .i64 b2], .agg #[.int .i64 a1, .int .i64 a2]] (by rfl) rfl rfl (by rfl) (by simp only [List.map_toArray, List.map_cons, List.map_nil]; rfl) ?_
  with_reducible refine (CB.out _).mono ?_
  rintro r w6 ⟨rfl, b⟩
  have BBw6 : Hid (Below wr.heap.size wr w6) := (BBw5.out).trans (b.mono (BBw5.out).size)
  have ew6 := Eff.of_below b (fun _ => False)
  clear b
  refine ⟨_, rfl, ?_⟩
  refine hK.out _ _ ⟨(rangeAt_eff hHeld.1 ew6 (fun h => h)), (rangeAt_eff hHeld.2.1 ew6 (fun h => h)), (rangeAt_eff hHeld.2.2 ew6 (fun h => h))⟩ (fun hHeld => ?_)
  clear hK K
  refine norm_ (a' := ?_) ?_ ?_
  rotate_left
  · show Act.put _ (some 135) _ = _
    simp only [Act.put, List.setIfInBounds_toArray, List.set_cons_zero, List.set_cons_succ, i64_w, i32_w]
    rfl
  refine pure_ (i := 19) (N := some 136) (v := ?_) (a' := ?_) #[true, true, true, true, true, true, true, true, true, true, true, true, true, true, true, true, true, true, true, true] rfl rfl (by kernel_rfl) (fun c a w h => HP.out c a _ _ w h) (Or.inl ⟨by rfl, ?_⟩) ?_ ?_
  rotate_left
  · intro w'
    go_simp
    with_reducible rfl
  rotate_left
  · simp only [Act.put, List.setIfInBounds_toArray, List.set_cons_zero, List.set_cons_succ, i64_w, i32_w]
    rfl
  refine done_ (by kernel_rfl) ?_
  exact HQ.out _ BBw6.out _ _ _ _ _ _ _ _ _ _ _ _ _ _ _ _ _ _ _
end Go.Proofs.Ytepfbhigeghjjaa.Q
namespace Go.Proofs.Ytepfbhigeghjjaa.Q
open Go.RowKit Go.Proofs.YtepfbhigeghjjaaW.PrintLast
set_option linter.unusedVariables false
set_option linter.unusedSimpArgs false

def costE (e : REd) (x : Int) : REd := ⟨e.A, e.cap, e.head, e.tails, x, e.l0, e.l1⟩
theorem flatE_set : ∀ (l : List REd) (i : Nat) (e : REd) (x : Int), l[i]? = some e → ((l.flatMap encE).set (i * 5 + 2) (.int .i64 x)) = (l.set i (costE e x)).flatMap encE
  | [], i, e, x, h => by simp at h
  | y :: l, 0, e, x, h => by cases h; rfl
  | y :: l, i + 1, e, x, h => by
    have := flatE_set l i e x (by simpa using h)
    rw [List.set_cons_succ, List.flatMap_cons, List.flatMap_cons, ← this]
    show ((_ :: _ :: _ :: _ :: _ :: _ : List Value).set ((i + 1) * 5 + 2) _) = _
    rw [show (i + 1) * 5 + 2 = i * 5 + 2 + 1 + 1 + 1 + 1 + 1 by omega, List.set_cons_succ, List.set_cons_succ, List.set_cons_succ, List.set_cons_succ, List.set_cons_succ]
    rfl
theorem own_setE {W : World} {B g c : Nat} {l : List REd} (h : Own W B 60 5 (some ⟨g, 0, none⟩) c encE l) {i : Nat} {e : REd} (hi : l[i]? = some e) (x : Int) : Own (W.setCell ⟨g, i * 5 + 2, none⟩ (.int .i64 x)) B 60 5 (some ⟨g, 0, none⟩) c encE (l.set i (costE e x)) := by
  have h1 := (World.ownsRow.stored h (i * 5 + 2) (.int .i64 x)).1
  rw [flatE_set l i e x hi] at h1
  unfold Own
  rw [List.length_set]
  exact h1
/-- The hypergraph and the two that were made of it. -/
structure MSt (w wr : World) (hb ub lb : Nat) (m : Int) (len cap c1 c2 : Nat) (A A1 A2 : Option Addr) (es1 es2 : List REd) : Prop where
  below : Below w.heap.size w wr
  hh : HBZ wr hb m len cap A
  hu : HBZ wr ub m es1.length c1 A1
  hl : HBZ wr lb m es2.length c2 A2
  e1 : EdsIn wr A1 es1
  e2 : EdsIn wr A2 es2
theorem MSt.bel {w wr W : World} {hb ub lb : Nat} {m : Int} {len cap c1 c2 : Nat} {A A1 A2 : Option Addr} {es1 es2 : List REd} (h : MSt w wr hb ub lb m len cap c1 c2 A A1 A2 es1 es2) (hb' : Below wr.heap.size wr W) : MSt w W hb ub lb m len cap c1 c2 A A1 A2 es1 es2 :=
  ⟨h.below.trans (hb'.mono h.below.size), h.hh.bel hb', h.hu.bel hb', h.hl.bel hb', h.e1.below hb', h.e2.below hb'⟩
/-- The slice h.Edges[i+1:]. -/
theorem tail_row {W : World} {eb eo cap i : Nat} {es : List REd} (h : RowIn W (some ⟨eb, eo, none⟩) 5 encE es) (hi : i < es.length) (hc : es.length ≤ cap) : ∃ so, (if cap = i + 1 then some ⟨eb, eo, none⟩ else some ⟨eb, eo + (i + 1) * 5, none⟩ : Option Addr) = some ⟨eb, so, none⟩ ∧ RowIn W (some ⟨eb, so, none⟩) 5 encE (es.drop (i + 1)) := by
  by_cases hci : cap = i + 1
  · refine ⟨eo, if_pos hci, fun j y hy => ?_⟩
    rw [List.drop_of_length_le (by omega)] at hy
    simp at hy
  · refine ⟨eo + (i + 1) * 5, if_neg hci, fun j y hy => ?_⟩
    rw [List.getElem?_drop] at hy
    obtain ⟨b, o, e, hr⟩ := h _ y hy
    cases e
    refine ⟨_, _, rfl, ?_⟩
    rw [show eo + (i + 1) * 5 + j * 5 = eo + (i + 1 + j) * 5 by omega]
    exact hr
theorem take_row {W : World} {A : Option Addr} {i : Nat} {es : List REd} (h : RowIn W A 5 encE es) : RowIn W A 5 encE (es.take i) := fun j y hy => by
  rw [List.getElem?_take] at hy
  split at hy
  · exact h j y hy
  · cases hy
set_option maxHeartbeats 8000000 in
set_option maxRecDepth 100000 in
theorem monotone_walk (n : Int) (A : Option Addr) (cap : Nat) (es : List REd) (k more : Int) (w : World) (hA : EdsIn w A es) (hcap : es.length ≤ cap) (hk8 : (Lit.int .u8 k).wf = true) (hm16 : (Lit.int .u16 more).wf = true) : Calls Try.prog 17 #[.agg #[.int .i64 n, .slice A es.length cap], .int .u8 k, .int .u16 more] w (TruePost w) := by
  have AW := Lib.hid awake44
  have HA := Lib.hid hA
  have hkb := Go.bounds_u8 hk8
  have hmb := Go.bounds_u16 hm16
  have HCP := Lib.hid hcap
  clear hk8 hm16 hcap
  clear hA
  obtain ⟨W1, hW1⟩ : ∃ W, W = w.alloc (.cells #[.int .i64 n, .slice A es.length cap] 48) := ⟨_, rfl⟩
  obtain ⟨hb, hhb⟩ : ∃ b, b = w.heap.size := ⟨_, rfl⟩
  have B1 : Hid (Below w.heap.size w W1) := by rw [hW1]; exact (Below.refl _ _).alloc (Nat.le_refl _) _
  have H1 : Hid (HBZ W1 hb n es.length cap A) := by show W1.heap[hb]? = _; rw [hW1, hhb]; exact heap_alloc_new w _
  have HW1 := Lib.hid (And.intro hW1 hhb)
  have CS := Lib.hid (bounded49 (cap := cap) n es (HA.out.below B1.out))
  clear hW1 hhb
  go_enter Try.func17, Try.ntmps17
  go_wp2_with fail
  rw [← HW1.out.1, ← HW1.out.2]
  with_reducible refine CS.out.mono ?_
  rintro r w2 ⟨b, rfl, hb2, b2⟩
  have B2 : Hid (Below w.heap.size w w2) := B1.out.trans (b2.mono B1.out.size)
  have H2 := Lib.hid (H1.out.bel b2)
  have SM := Lib.hid hb2
  clear b2 hb2 H1 B1 HW1 CS
  cases b with
  | false =>
    go_wp2_with fail
    with_reducible refine (AW.out _).mono ?_
    rintro r w3 ⟨rfl, b3⟩
    have B3 : Hid (Below w.heap.size w w3) := B2.out.trans (b3.mono B2.out.size)
    clear b3
    go_wp2_with fail
    go_ret
    exact ⟨rfl, B3.out⟩
  | true =>
    obtain ⟨m, v0, f0, hm⟩ := SM.out rfl
    obtain ⟨⟨rfl, h1, h30, h60, hok⟩, hs0, hz0⟩ := hm
    have HOK := Lib.hid hok
    have HEE : Hid (∀ e ∈ es.map REd.plain, K.OkE m e) := edges_ok hok
    obtain ⟨y0, y1⟩ := H2.out.c
    by_cases hl0 : es.length = 0
    · have h5 : ((es.length : Int) == 0) = true := beq_iff_eq.2 (by omega)
      clear hs0 hz0 hok SM
      go_wp2_with fail
      with_reducible refine (AW.out _).mono ?_
      rintro r w9 ⟨rfl, b9⟩
      have B9 : Hid (Below w.heap.size w w9) := (B2.out).trans (b9.mono (B2.out).size)
      clear b9
      go_wp2_with fail
      go_ret
      exact ⟨rfl, B9.out⟩
    have h5 : ((es.length : Int) == 0) = false := beq_eq_false_iff_ne.2 (by omega)
    obtain ⟨i, hrm⟩ : ∃ i : Nat, Int.tmod k (es.length : Int) = (i : Int) := ⟨(Int.tmod k (es.length : Int)).toNat, by rw [Int.toNat_of_nonneg (Int.tmod_nonneg _ hkb.1)]⟩
    have hil : i < es.length := by
      have := Int.tmod_lt_of_pos k (show (0 : Int) < (es.length : Int) by omega)
      rw [hrm] at this
      omega
    have hwk : IntKind.i64.wrap k = k := IntWalk.i64_in _ (by omega)
    have hwi : IntKind.i64.wrap (i : Int) = (i : Int) := IntWalk.i64_in _ (by omega)
    obtain ⟨e, he⟩ : ∃ e, es[i]? = some e := ⟨_, List.getElem?_eq_getElem hil⟩
    have hoke := HOK.out e (List.mem_of_getElem? he)
    have HKE := Lib.hid (And.intro he hoke)
    have HMB := Lib.hid hmb
    obtain ⟨eb, eo, rfl, _⟩ := HA.out.at_ i e he
    clear hs0 hz0 hok SM he hoke hmb
    go_wp2_with fail
    clear hrm hwk hkb h5 y0 y1
    have HR2 : w2.rangeAt hb 0 [.int .i64 m, .slice (some ⟨eb, eo, none⟩) es.length cap] := box_range (L := [.int .i64 m, .slice (some ⟨eb, eo, none⟩) es.length cap]) (show w2.heap[hb]? = _ from H2.out) 0 _ (fun j v h => by rw [Nat.zero_add]; exact h)
    refine mon_r4 (fun _ _ _ _ _ h => h) (Array.getElem?_eq_some_iff.1 (show w2.heap[hb]? = _ from H2.out)).1 HR2 ?_
    rintro ub lb w4 ⟨b4, U4, L4, hg1, hg2, hg3⟩
    intro t33 t34
    have B4 : Below w.heap.size w w4 := B2.out.trans (b4.mono B2.out.size)
    have H4 := H2.out.bel b4
    have hbl : hb < w2.heap.size := (Array.getElem?_eq_some_iff.1 (show w2.heap[hb]? = _ from H2.out)).1
    have hbl4 : hb < w4.heap.size := (Array.getElem?_eq_some_iff.1 (show w4.heap[hb]? = _ from H4)).1
    have ubl4 : ub < w4.heap.size := (Array.getElem?_eq_some_iff.1 (show w4.heap[ub]? = _ from U4)).1
    have lbl4 : lb < w4.heap.size := (Array.getElem?_eq_some_iff.1 (show w4.heap[lb]? = _ from L4)).1
    have hwB := B2.out.size
    -- up.Edges
    have al4 : Below w4.heap.size w4 (w4.alloc (.cells #[] 60)) := (Below.refl _ _).alloc (Nat.le_refl _) _
    obtain ⟨A1, c1, W5, hap, hown, hb5, _⟩ := append_any (c2 := cap) kindE (show Own (w4.alloc (.cells #[] 60)) w4.heap.size 60 5 (some ⟨w4.heap.size, 0, none⟩) 0 encE ([] : List REd) from Own.lit kindE w4 w4.heap.size (Nat.le_refl _) ([] : List REd) (by decide)) al4.size (l2 := es) (sb := eb) (so := eo) (show RowIn _ (some ⟨eb, eo, none⟩) 5 encE es from (HA.out.below (B4.trans (al4.mono B4.size))).at_) (by show 0 + es.length ≤ _; omega)
    have AP : Hid ((Builtin.append_ #[46, 46] 46 #[.slice (some ⟨w4.heap.size, 0, none⟩) 0 0, .slice (some ⟨eb, eo, none⟩) es.length cap]).run Try.prog (w4.alloc (.cells #[] 60)) = .ok (.slice A1 (0 + es.length) c1) W5) := hap
    rw [Nat.zero_add] at AP
    have hown : Own W5 w4.heap.size 60 5 A1 c1 encE es := hown
    have b5 : Below w4.heap.size w4 W5 := al4.trans hb5
    obtain ⟨g, rfl, hg4, hg5, hfz, hrow⟩ := hown.at_ kindE (by omega)
    have B5 : Below w.heap.size w W5 := B4.trans (b5.mono B4.size)
    have U5 := U4.bel b5
    have L5 := L4.bel b5
    have H5 := H4.bel b5
    have x1 := H4.c.2
    have x2 := U5.c.2
    have x3 : W5.frozen? ⟨ub, 1, none⟩ = false := frozen_blk (show W5.heap[ub]? = _ from U5) 1
    obtain ⟨W6, hW6⟩ : ∃ W, W = W5.setCell ⟨ub, 1, none⟩ (.slice (some ⟨g, 0, none⟩) es.length c1) := ⟨_, rfl⟩
    have he6 : Eff (fun k => k = ub) W5 W6 := by rw [hW6]; exact eff_setCell W5 ub 1 _
    have U6 : HBZ W6 ub m es.length c1 (some ⟨g, 0, none⟩) := by show W6.heap[ub]? = _; rw [hW6]; exact set_cell (show W5.heap[ub]? = _ from U5) 1 _
    have L6 : HBZ W6 lb m es.length cap (some ⟨eb, eo, none⟩) := he6.heap L5 (fun h => hg3 h.symm)
    have H6 : HBZ W6 hb m es.length cap (some ⟨eb, eo, none⟩) := he6.heap H5 (fun h => by omega)
    have O6 : Own W6 w4.heap.size 60 5 (some ⟨g, 0, none⟩) c1 encE es := hown.eff he6 (fun k hk _ _ hkp => by omega)
    have B6 : Below w.heap.size w W6 := B5.trans (he6.belowB B5.size (fun k hk => by omega))
    obtain ⟨g', hgg, _, hg6, hfz6, hrow6⟩ := O6.at_ kindE (by omega)
    cases hgg
    -- the cost raised
    obtain ⟨x, hx⟩ : ∃ x : Int, (if 1099511627776 < e.cost + more then 1099511627776 else e.cost + more) = x := ⟨_, rfl⟩
    have G6 : W6.cell? ⟨g, i * 5 + 2, none⟩ = some (.int .i64 e.cost) := hrow6 i e HKE.out.1 2 _ rfl
    have FZ6 : Hid (W6.frozen? ⟨g, i * 5 + 2, none⟩ = false) := hfz6 _
    obtain ⟨W7, hW7⟩ : ∃ W, W = W6.drew.setCell ⟨g, i * 5 + 2, none⟩ (.int .i64 x) := ⟨_, rfl⟩
    have he7 : Eff (fun k => k = g) W6 W7 := by rw [hW7]; exact ((Eff.refl _ W6).drew).trans (eff_setCell _ g _ _) (fun _ h => .inl h)
    have O7 : Own W7 w4.heap.size 60 5 (some ⟨g, 0, none⟩) c1 encE (es.set i (costE e x)) := by
      rw [hW7]
      exact own_setE (show Own W6.drew w4.heap.size 60 5 (some ⟨g, 0, none⟩) c1 encE es from O6) HKE.out.1 x
    have U7 : HBZ W7 ub m es.length c1 (some ⟨g, 0, none⟩) := he7.heap U6 (fun h => by omega)
    have L7 : HBZ W7 lb m es.length cap (some ⟨eb, eo, none⟩) := he7.heap L6 (fun h => by omega)
    have H7 : HBZ W7 hb m es.length cap (some ⟨eb, eo, none⟩) := he7.heap H6 (fun h => by omega)
    have B7 : Below w.heap.size w W7 := B6.trans (he7.belowB B6.size (fun k hk => by omega))
    have lbl7 : lb < W7.heap.size := (Array.getElem?_eq_some_iff.1 (show W7.heap[lb]? = _ from L7)).1
    -- less.Edges
    have b8a : Below W7.heap.size W7 (W7.alloc (.cells #[] 60)).drew := ((Below.refl _ _).alloc (Nat.le_refl _) _).drew
    obtain ⟨A8, c8, W8, hap1, hown8, hb8, _⟩ := append_any (c2 := cap) kindE (show Own (W7.alloc (.cells #[] 60)).drew W7.heap.size 60 5 (some ⟨W7.heap.size, 0, none⟩) 0 encE ([] : List REd) from Own.lit kindE W7 W7.heap.size (Nat.le_refl _) ([] : List REd) (by decide)) b8a.size (l2 := es.take i) (sb := eb) (so := eo) (take_row (show RowIn _ (some ⟨eb, eo, none⟩) 5 encE es from (HA.out.below (B7.trans (b8a.mono B7.size))).at_)) (by rw [List.length_take]; show 0 + _ ≤ _; omega)
    have htk : (es.take i).length = i := by rw [List.length_take]; omega
    have AP1 : Hid ((Builtin.append_ #[46, 46] 46 #[.slice (some ⟨W7.heap.size, 0, none⟩) 0 0, .slice (some ⟨eb, eo, none⟩) i cap]).run Try.prog (W7.alloc (.cells #[] 60)).drew = .ok (.slice A8 (0 + i) c8) W8) := by
      have := hap1
      rw [htk] at this
      exact this
    rw [Nat.zero_add] at AP1
    have hown8 : Own W8 W7.heap.size 60 5 A8 c8 encE (es.take i) := hown8
    have b8 : Below W7.heap.size W7 W8 := b8a.trans hb8
    have B8 : Below w.heap.size w W8 := B7.trans (b8.mono B7.size)
    obtain ⟨so, hT, hdrop⟩ := tail_row (cap := cap) (show RowIn W8 (some ⟨eb, eo, none⟩) 5 encE es from (HA.out.below B8).at_) hil HCP.out
    obtain ⟨A9, c9, W9, hap2, hown9, hb9, _⟩ := append_any (c2 := cap - (i + 1)) kindE hown8 b8.size hdrop (by rw [htk, List.length_drop]; omega)
    have hdl : (es.drop (i + 1)).length = es.length - (i + 1) := List.length_drop
    have hlen2 : (es.take i ++ es.drop (i + 1)).length = i + (es.length - (i + 1)) := by rw [List.length_append, htk, hdl]
    have AP2 : Hid ((Builtin.append_ #[46, 46] 46 #[.slice A8 i c8, .slice (if cap = i + 1 then some ⟨eb, eo, none⟩ else some ⟨eb, eo + (i + 1) * 5, none⟩) (es.length - (i + 1)) (cap - (i + 1))]).run Try.prog W8 = .ok (.slice A9 (es.take i ++ es.drop (i + 1)).length c9) W9) := by
      have := hap2
      rw [htk, hdl] at this
      rw [hT, hlen2]
      exact this
    have b9 : Below W7.heap.size W7 W9 := b8.trans hb9
    have B9 : Below w.heap.size w W9 := B7.trans (b9.mono B7.size)
    have L9 := L7.bel b9
    have LF : Hid (W9.frozen? ⟨lb, 1, none⟩ = false) := frozen_blk (show W9.heap[lb]? = _ from L9) 1
    have LC : Hid (∃ o, W9.cell? ⟨lb, 1, none⟩ = some o ∧ o.oneCell' = true) := ⟨_, L9.c.2, rfl⟩
    have K8 : Hid (W8.cell? ⟨hb, 1, none⟩ = some (.slice (some ⟨eb, eo, none⟩) es.length cap)) := (H7.bel b8).c.2
    obtain ⟨W10, hW10⟩ : ∃ W, W = W9.setCell ⟨lb, 1, none⟩ (.slice A9 (es.take i ++ es.drop (i + 1)).length c9) := ⟨_, rfl⟩
    have he10 : Eff (fun k => k = lb) W9 W10 := by rw [hW10]; exact eff_setCell W9 lb 1 _
    have B10 : Below w.heap.size w W10 := B9.trans (he10.belowB B9.size (fun k hk => by omega))
    have hmem1 : ∀ e' ∈ es.set i (costE e x), ∃ e0 ∈ es, e'.A = e0.A ∧ e'.tails = e0.tails ∧ e'.head = e0.head ∧ e0.cost ≤ e'.cost := fun e' he' => by
      rcases List.mem_or_eq_of_mem_set he' with h | rfl
      · exact ⟨e', h, rfl, rfl, rfl, Int.le_refl _⟩
      · refine ⟨e, List.mem_of_getElem? HKE.out.1, rfl, rfl, rfl, ?_⟩
        show e.cost ≤ x
        rw [← hx]
        have h1 := HKE.out.2.2.2.2.2.1
        have h2 : e.cost ≤ 1099511627776 := h1
        have h3 := HMB.out.1
        split <;> omega
    have hmem2 : ∀ e' ∈ es.take i ++ es.drop (i + 1), e' ∈ es := fun e' he' => by
      rcases List.mem_append.1 he' with h | h
      · exact List.mem_of_mem_take h
      · exact List.mem_of_mem_drop h
    have HM1 := Lib.hid hmem1
    have HM2 := Lib.hid hmem2
    have HM3 : Hid (∀ e' ∈ es.take i ++ es.drop (i + 1), ∃ e0 ∈ es.set i (costE e x), e0 = e') := fun e' he' => by
      rcases List.mem_append.1 he' with h | h
      · obtain ⟨j, hj⟩ := List.getElem?_of_mem h
        rw [List.getElem?_take] at hj
        split at hj
        · rename_i hji
          exact ⟨e', List.mem_of_getElem? (i := j) (by rw [List.getElem?_set_ne (by omega)]; exact hj), rfl⟩
        · cases hj
      · obtain ⟨j, hj⟩ := List.getElem?_of_mem h
        rw [List.getElem?_drop] at hj
        exact ⟨e', List.mem_of_getElem? (i := i + 1 + j) (by rw [List.getElem?_set_ne (by omega)]; exact hj), rfl⟩
    have M10 : Hid (MSt w W10 hb ub lb m es.length cap c1 c9 (some ⟨eb, eo, none⟩) (some ⟨g, 0, none⟩) A9 (es.set i (costE e x)) (es.take i ++ es.drop (i + 1))) := by
      refine ⟨B10, he10.heap (H7.bel b9) (fun h => by omega), ?_, ?_, ?_, ?_⟩
      · have : HBZ W10 ub m es.length c1 (some ⟨g, 0, none⟩) := he10.heap (U7.bel b9) (fun h => by omega)
        rw [List.length_set]
        exact this
      · show W10.heap[lb]? = _
        rw [hW10]
        exact set_cell (show W9.heap[lb]? = _ from L9) 1 _
      · refine eds_of ?_ (fun e' he' => ?_)
        · have h9 := (O7.bel (b9.mono (Nat.le_refl _)))
          exact (h9.eff he10 (fun k hk _ _ hkl => by omega)).row kindE
        · obtain ⟨e0, h0, h1, h2, _⟩ := hmem1 e' he'
          rw [h1, h2]
          exact (HA.out.tails e0 h0).below B10
      · refine eds_of ?_ (fun e' he' => (HA.out.tails e' (hmem2 e' he')).below B10)
        exact (hown9.eff he10 (fun k hk _ _ hkl => by omega)).row kindE
    have HW6 := Lib.hid hW6
    have HW7 := Lib.hid hW7
    have HW10 := Lib.hid hW10
    have HX := Lib.hid hx
    have H7c : Hid (W7.cell? ⟨hb, 1, none⟩ = some (.slice (some ⟨eb, eo, none⟩) es.length cap)) := H7.c.2
    have U6c : Hid (W6.cell? ⟨ub, 1, none⟩ = some (.slice (some ⟨g, 0, none⟩) es.length c1)) := U6.c.2
    have G6c := Lib.hid G6
    have HN : Hid (0 ≤ e.cost ∧ e.cost ≤ 1099511627776 ∧ 0 ≤ more ∧ more ≤ 65535) := ⟨HKE.out.2.2.2.2.1, HKE.out.2.2.2.2.2.1, HMB.out.1, HMB.out.2⟩
    clear hap hap1 hap2 hown hown8 hown9 hb5 hb8 hb9 b5 b8 b9 b8a al4 b4 U4 L4 U5 L5 H5 H4 U6 L6 H6 O6 O7 U7 L7 H7 L9 hfz hrow hfz6 hrow6 he6 he7 he10 hW6 hW7 hW10 hx hmem1 hmem2 B4 B5 B6 B7 B8 B9 B10 G6 hT hdrop HR2 hwi
    go_wp2_with (first | (refine wpL_v (some 38) rfl rfl (exec_append rfl (by rfl) (by rfl) AP.out) ?_))
    rw [← HW6.out]
    refine mon_r6 (g := g) (i := i) (cost := e.cost) (more := more) (fun _ _ _ _ _ h => h) (by omega) (IntWalk.i64_in _ (by have := HN.out; omega)) (IntWalk.i64_in _ (by have := HN.out; omega)) U6c.out G6c.out FZ6 ?_
    intro t40 t41 t42 t43 t44 t45 t46 t47 t48 t49 t50 t51 t52 t53 t54
    rw [HX.out, ← HW7.out]
    go_wp2_with fail
    refine mon_r7 (fun _ _ _ _ _ h => h) (by have := HCP.out; omega) (by omega) (by omega) (IntWalk.i64_in _ (by omega)) H7c.out AP1 K8 AP2 LC LF ?_
    intro t55 t56 t57 t58 t59 t60 t61 t62 t63 t64 t65 t66 t67
    rw [← HW10.out]
    obtain ⟨es1, hes1⟩ : ∃ l, es.set i (costE e x) = l := ⟨_, rfl⟩
    obtain ⟨es2, hes2⟩ : ∃ l, es.take i ++ es.drop (i + 1) = l := ⟨_, rfl⟩
    rw [hes1, hes2] at M10 HM3
    rw [hes1] at HM1
    rw [hes2] at HM2
    clear hes1 hes2 AP1 AP2 AP LC LF HW10 HW7 HW6 hlen2 hdl htk K8 H7c U6c G6c FZ6
    have CB1 := Lib.hid (bounded49 (cap := c1) m es1 M10.out.e1)
    obtain ⟨y0, y1⟩ := M10.out.hu.c
    go_wp2_with fail
    with_reducible refine CB1.out.mono ?_
    rintro r w11 ⟨b, rfl, hb11, b11⟩
    have M11 := Lib.hid (M10.out.bel b11)
    have HB11 := Lib.hid hb11
    clear b11 hb11 y0 y1 M10 CB1
    cases b with
    | false =>
      go_wp2_with fail
      with_reducible refine (AW.out _).mono ?_
      rintro r w9 ⟨rfl, b9⟩
      have B9 : Hid (Below w.heap.size w w9) := (M11.out.below).trans (b9.mono (M11.out.below).size)
      clear b9
      go_wp2_with fail
      go_ret
      exact ⟨rfl, B9.out⟩

    | true =>
      obtain ⟨m1, _, _, hm1, _, _⟩ := HB11.out rfl
      obtain ⟨hmm, _, _, hn1, hok1⟩ := hm1
      obtain rfl : m = m1 := by omega
      have CB2 := Lib.hid (bounded49 (cap := c9) m es2 M11.out.e2)
      obtain ⟨y0, y1⟩ := M11.out.hl.c
      have HOK1 := Lib.hid hok1
      clear hok1 hmm HB11
      go_wp2_with fail
      with_reducible refine CB2.out.mono ?_
      rintro r w12 ⟨b, rfl, hb12, b12⟩
      have M12 := Lib.hid (M11.out.bel b12)
      have HB12 := Lib.hid hb12
      clear b12 hb12 y0 y1 M11 CB2
      cases b with
      | false =>
        go_wp2_with fail
        with_reducible refine (AW.out _).mono ?_
        rintro r w9 ⟨rfl, b9⟩
        have B9 : Hid (Below w.heap.size w w9) := (M12.out.below).trans (b9.mono (M12.out.below).size)
        clear b9
        go_wp2_with fail
        go_ret
        exact ⟨rfl, B9.out⟩

      | true =>
        obtain ⟨m2, _, _, hm2, _, _⟩ := HB12.out rfl
        obtain ⟨hmm, _, _, hn2, hok2⟩ := hm2
        obtain rfl : m = m2 := by omega
        have HOK2 := Lib.hid hok2
        have CS1 := Lib.hid (solve50 (ecap := cap) (HA.out.below M12.out.below) HOK.out (by omega) (by omega))
        obtain ⟨y0, y1⟩ := M12.out.hh.c
        clear hok2 hmm HB12
        go_wp2_with fail
        with_reducible refine CS1.out.mono ?_
        rintro r w13 ⟨bv, be, v, f, rfl, hs, hv, hf, b13, _, _⟩
        have M13 := Lib.hid (M12.out.bel b13)
        have HV := Lib.hid (And.intro hs.fix hv)
        clear b13 hs hv hf y0 y1 M12 CS1
        have CS2 := Lib.hid (solve50 (ecap := c1) M13.out.e1 HOK1.out (by omega) (by omega))
        obtain ⟨y0, y1⟩ := M13.out.hu.c
        go_wp2_with fail
        with_reducible refine CS2.out.mono ?_
        rintro r w14 ⟨ba, be1, a, f1, rfl, hs, hv, hf, b14, _, _⟩
        have M14 := Lib.hid (M13.out.bel b14)
        have HVA : Hid (K.Fix (es.map REd.plain) m v ∧ K.Fix (es1.map REd.plain) m a ∧ ValsAt w14 bv m v ∧ ValsAt w14 ba m a) := ⟨HV.out.1, hs.fix, HV.out.2.bel b14, hv⟩
        clear b14 hs hv hf y0 y1 M13 CS2 HV
        have CS3 := Lib.hid (solve50 (ecap := c9) M14.out.e2 HOK2.out (by omega) (by omega))
        obtain ⟨y0, y1⟩ := M14.out.hl.c
        go_wp2_with fail
        with_reducible refine CS3.out.mono ?_
        rintro r w15 ⟨bb, be2, d, f2, rfl, hs, hv, hf, b15, _, _⟩
        have M15 := Lib.hid (M14.out.bel b15)
        have HVB : Hid (ValsAt w15 bv m v ∧ ValsAt w15 ba m a ∧ ValsAt w15 bb m d) := ⟨HVA.out.2.2.1.bel b15, HVA.out.2.2.2.bel b15, hv⟩
        have HLE : Hid (∀ j, j < m → K.leV (v j) (a j) ∧ K.leV (a j) (d j)) := fun j hj => by
          refine ⟨K.mono_fix (edges_ok HOK1.out) (fun e' he' => ?_) HVA.out.1 HVA.out.2.1 j hj, K.mono_fix (edges_ok HOK2.out) (fun e' he' => ?_) HVA.out.2.1 hs.fix j hj⟩
          · obtain ⟨e1, h1, rfl⟩ := List.mem_map.1 he'
            obtain ⟨e0, h0, _, h2, h3, h4⟩ := HM1.out e1 h1
            exact ⟨e0.plain, List.mem_map.2 ⟨e0, h0, rfl⟩, by show e0.head.toNat = e1.head.toNat; rw [h3], by show e0.tails.map _ = e1.tails.map _; rw [h2], h4⟩
          · obtain ⟨e1, h1, rfl⟩ := List.mem_map.1 he'
            obtain ⟨e0, h0, rfl⟩ := HM3.out e1 h1
            exact ⟨e0.plain, List.mem_map.2 ⟨e0, h0, rfl⟩, rfl, rfl, Int.le_refl _⟩
        clear b15 hs hv hf y0 y1 M14 CS3 HVA
        obtain ⟨y0, y1⟩ := M15.out.hh.c
        go_wp2_with fail
        clear y0 y1
        go_loopg [16] m (fun gk s16 wr => ∃ j : Nat, s16 = .int .i64 j ∧ j ≤ m ∧ m - j ≤ gk ∧ Hid (Below w.heap.size w wr ∧ HBZ wr hb m es.length cap (some ⟨eb, eo, none⟩) ∧ ValsAt wr bv m v ∧ ValsAt wr ba m a ∧ ValsAt wr bb m d))
        case atStart => exact ⟨0, rfl, by omega, by omega, M15.out.below, M15.out.hh, HVB.out⟩
        case round =>
          clear M15 HVB
          obtain ⟨j, rfl, hj, hkj, HR⟩ := hrel
          obtain ⟨y0, y1⟩ := HR.out.2.1.c
          by_cases hlt : j < m
          · have hlz : (j : Int) < (m : Int) := by omega
            obtain ⟨⟨v1, v2⟩, hv⟩ : ∃ y, v j = y := ⟨_, rfl⟩
            obtain ⟨⟨a1, a2⟩, ha⟩ : ∃ y, a j = y := ⟨_, rfl⟩
            obtain ⟨⟨d1, d2⟩, hd⟩ : ∃ y, d j = y := ⟨_, rfl⟩
            have hle := HLE.out j hlt
            rw [hv, ha, hd] at hle
            have VR : wr.rangeAt bv (j * 2) [.int .i64 v1, .int .i64 v2] := by have := HR.out.2.2.1.at_ j hlt; rw [hv] at this; exact this
            have AR : wr.rangeAt ba (j * 2) [.int .i64 a1, .int .i64 a2] := by have := HR.out.2.2.2.1.at_ j hlt; rw [ha] at this; exact this
            have BR : wr.rangeAt bb (j * 2) [.int .i64 d1, .int .i64 d2] := by have := HR.out.2.2.2.2.at_ j hlt; rw [hd] at this; exact this
            have HRR := Lib.hid HR.out
            have hL : decide (a1 < v1 ∨ a1 = v1 ∧ a2 < v2) = false := decide_eq_false hle.1
            have hM : decide (d1 < a1 ∨ d1 = a1 ∧ d2 < a2) = false := decide_eq_false hle.2
            have HLM := Lib.hid (And.intro hL (And.intro hM (And.intro AR (And.intro VR BR))))
            clear HR hv ha hd hle hL hM VR AR BR
            go_wp2_with fail
            refine mon_r18 (fun _ _ _ _ _ h => h) (by omega) HLM.out.1 HLM.out.2.1 HLM.out.2.2.1 HLM.out.2.2.2.1 HLM.out.2.2.2.2 ?_
            rintro w17 b17
            intro t117 t118 t119 t120 t121 t122 t123 t124 t125 t126 t127 t128 t129 t130 t131 t132 t133 t134 t135
            have R17 : Hid (Below w.heap.size w w17 ∧ HBZ w17 hb m es.length cap (some ⟨eb, eo, none⟩) ∧ ValsAt w17 bv m v ∧ ValsAt w17 ba m a ∧ ValsAt w17 bb m d) := ⟨HRR.out.1.trans (b17.mono HRR.out.1.size), HRR.out.2.1.bel b17, HRR.out.2.2.1.bel b17, HRR.out.2.2.2.1.bel b17, HRR.out.2.2.2.2.bel b17⟩
            clear b17 HRR HLM
            go_wp2_with fail
            go_roundg (m - (j + 1))
            case measure => omega
            case rel => exact ⟨j + 1, by go_num, by omega, by omega, R17.out⟩
          · have hlz : ¬ (j : Int) < (m : Int) := by omega
            obtain rfl : m = j := by omega
            go_wp2_with fail
            with_reducible refine (AW.out _).mono ?_
            rintro r w9 ⟨rfl, b9⟩
            have B9 : Hid (Below w.heap.size w w9) := (HR.out.1).trans (b9.mono (HR.out.1).size)
            clear b9
            go_wp2_with fail
            go_ret
            exact ⟨rfl, B9.out⟩

end Go.Proofs.Ytepfbhigeghjjaa.Q
