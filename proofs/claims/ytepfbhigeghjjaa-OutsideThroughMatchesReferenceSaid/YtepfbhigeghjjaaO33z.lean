/- The reference of chapter 33: sums, inside costs, the regions that draw. The reference of chapter 33: Outside. The reference of chapter 33: Through, EdgeThrough. -/
import Derived.Test.YtepfbhigeghjjaaO33x
import Derived.Test.YtepfbhigeghjjaaKRx
namespace Go.Proofs.Ytepfbhigeghjjaa.Q
open Go.RowKit Go.Proofs.YtepfbhigeghjjaaW.PrintLast
set_option linter.unusedVariables false
set_option linter.unusedSimpArgs false

set_option maxHeartbeats 2000000 in
set_option maxRecDepth 100000 in
theorem o57_r20 {bo xb n hn : Nat} {d cost c : Int} {Q : Exit → Act → World → Prop} (hp : ∀ c (a : Act) (i : Nat) (v : Value) w, Q (.panic c) (a.put (some i) v) w → Q (.panic c) a w)
    {u0 u1 u2 u3 u4 u5 u7 u8 u9 u11 u12 u13 u14 u15 u16 u17 u18 u19 u20 u21 u22 u23 u24 u25 u26 u27 u28 u29 u30 u31 u32 u33 u34 u35 u36 u37 u38 u39 u40 u41 u42 u43 u44 u45 u46 u47 u48 u49 u50 u51 u52 u53 u54 u55 u56 u57 u58 u59 u60 u61 u62 u63 u64 u65 u66 u67 u68 u69 u70 u71 u72 u73 u74 u75 u76 u77 u78 u79 u80 u81 u82 u83 u84 u85 u86 u87 u88 u89 u90 u91 u92 u93 u94 u95 u96 u97 u98 u99 u100 u101 u102 u103 u104 u105 u106 : Value} {wr : World} (hhz : (hn : Int) < (n : Int)) (X0 : wr.cell? ⟨xb, 0, none⟩ = some (.int .i64 hn)) (O0 : wr.cell? ⟨bo, hn, none⟩ = some (.int .i64 d)) (X2 : wr.cell? ⟨xb, 2, none⟩ = some (.int .i64 cost)) (C85 : Hid (∀ W : World, Calls Try.prog 85 #[.int .i64 d, .int .i64 cost] W fun r w' => r = .returned (.int .i64 c) ∧ Below W.heap.size W w'))
    (hQ : ∀ (w8 : World), Below wr.heap.size wr w8 → ∀ (t60 t61 t62 t63 t64 t65 t66 t67 : Value), Q .normal { tmps := #[u0, u1, u2, u3, u4, u5, .slice (some ⟨bo, 0, none⟩) n n, u7, u8, u9, .pointer (some ⟨xb, 0, none⟩), u11, .int .i64 c, u13, u14, u15, u16, u17, u18, u19, u20, u21, u22, u23, u24, u25, u26, u27, u28, u29, u30, u31, u32, u33, u34, u35, u36, u37, u38, u39, u40, u41, u42, u43, u44, u45, u46, u47, u48, u49, u50, u51, u52, u53, u54, u55, u56, u57, u58, u59, t60, t61, t62, t63, t64, t65, t66, t67, u68, u69, u70, u71, u72, u73, u74, u75, u76, u77, u78, u79, u80, u81, u82, u83, u84, u85, u86, u87, u88, u89, u90, u91, u92, u93, u94, u95, u96, u97, u98, u99, u100, u101, u102, u103, u104, u105, u106], defers := [] } (w8)) :
    Code.wp Try.prog (reg (Try.f57) 20) Q { tmps := #[u0, u1, u2, u3, u4, u5, .slice (some ⟨bo, 0, none⟩) n n, u7, u8, u9, .pointer (some ⟨xb, 0, none⟩), u11, u12, u13, u14, u15, u16, u17, u18, u19, u20, u21, u22, u23, u24, u25, u26, u27, u28, u29, u30, u31, u32, u33, u34, u35, u36, u37, u38, u39, u40, u41, u42, u43, u44, u45, u46, u47, u48, u49, u50, u51, u52, u53, u54, u55, u56, u57, u58, u59, u60, u61, u62, u63, u64, u65, u66, u67, u68, u69, u70, u71, u72, u73, u74, u75, u76, u77, u78, u79, u80, u81, u82, u83, u84, u85, u86, u87, u88, u89, u90, u91, u92, u93, u94, u95, u96, u97, u98, u99, u100, u101, u102, u103, u104, u105, u106], defers := [] } wr := by
  have HQ := Lib.hid hQ
  have HP := Lib.hid hp
  clear hQ hp
  refine start_ (n := 9) (S := fun w' => w'.cell? ⟨xb, 0, none⟩ = some (.int .i64 hn) ∧ w'.cell? ⟨bo, hn, none⟩ = some (.int .i64 d) ∧ w'.cell? ⟨xb, 2, none⟩ = some (.int .i64 cost)) (ds := []) #[false, false, false, false, false, false, false, false, false] (by kernel_rfl) rfl rfl ⟨X0, O0, X2⟩ (fun hHeld => ?_)
  refine pure_ (i := 0) (N := some 60) (v := ?_) (a' := ?_) #[true, false, false, false, false, false, false, false, false] rfl rfl (by kernel_rfl) (fun c a w h => HP.out c a _ _ w h) (Or.inl ⟨by rfl, ?_⟩) ?_ ?_
  rotate_left
  · intro w'
    go_simp
    with_reducible rfl
  rotate_left
  · simp only [Act.put, List.setIfInBounds_toArray, List.set_cons_zero, List.set_cons_succ, i64_w, i32_w]
    rfl
  refine pure_ (i := 1) (N := some 61) (v := ?_) (a' := ?_) #[true, true, false, false, false, false, false, false, false] rfl rfl (by kernel_rfl) (fun c a w h => HP.out c a _ _ w h) (Or.inl ⟨by rfl, ?_⟩) ?_ ?_
  rotate_left
  · intro w'
    go_simp
    with_reducible rfl
  rotate_left
  · simp only [Act.put, List.setIfInBounds_toArray, List.set_cons_zero, List.set_cons_succ, i64_w, i32_w]
    rfl
  refine pure_ (i := 5) (N := some 65) (v := ?_) (a' := ?_) #[true, true, false, false, false, true, false, false, false] rfl rfl (by kernel_rfl) (fun c a w h => HP.out c a _ _ w h) (Or.inl ⟨by rfl, ?_⟩) ?_ ?_
  rotate_left
  · intro w'
    go_simp
    with_reducible rfl
  rotate_left
  · simp only [Act.put, List.setIfInBounds_toArray, List.set_cons_zero, List.set_cons_succ, i64_w, i32_w]
    rfl
  refine take_ (i := 2) (N := some 62) (v := ?_) (a' := ?_) #[true, true, true, false, false, true, false, false, false] rfl rfl (by kernel_rfl) (fun c a w h => HP.out c a _ _ w h) (Or.inl ⟨by rfl, ?_⟩) hHeld ?_ ?_
  rotate_left
  · rintro w' ⟨s0, s1, s2⟩
    go_simp
    with_reducible rfl
  rotate_left
  · simp only [Act.put, List.setIfInBounds_toArray, List.set_cons_zero, List.set_cons_succ, i64_w, i32_w]
    rfl
  refine pure_ (i := 3) (N := some 63) (v := ?_) (a' := ?_) #[true, true, true, true, false, true, false, false, false] rfl rfl (by kernel_rfl) (fun c a w h => HP.out c a _ _ w h) (Or.inl ⟨by rfl, ?_⟩) ?_ ?_
  rotate_left
  · intro w'
    go_simp
    with_reducible rfl
  rotate_left
  · simp only [Act.put, List.setIfInBounds_toArray, List.set_cons_zero, List.set_cons_succ, i64_w, i32_w]
    rfl
  refine take_ (i := 4) (N := some 64) (v := ?_) (a' := ?_) #[true, true, true, true, true, true, false, false, false] rfl rfl (by kernel_rfl) (fun c a w h => HP.out c a _ _ w h) (Or.inl ⟨by rfl, ?_⟩) hHeld ?_ ?_
  rotate_left
  · rintro w' ⟨s0, s1, s2⟩
    go_simp
    with_reducible rfl
  rotate_left
  · simp only [Act.put, List.setIfInBounds_toArray, List.set_cons_zero, List.set_cons_succ, i64_w, i32_w]
    rfl
  refine take_ (i := 6) (N := some 66) (v := ?_) (a' := ?_) #[true, true, true, true, true, true, true, false, false] rfl rfl (by kernel_rfl) (fun c a w h => HP.out c a _ _ w h) (Or.inl ⟨by rfl, ?_⟩) hHeld ?_ ?_
  rotate_left
  · rintro w' ⟨s0, s1, s2⟩
    go_simp
    with_reducible rfl
  rotate_left
  · simp only [Act.put, List.setIfInBounds_toArray, List.set_cons_zero, List.set_cons_succ, i64_w, i32_w]
    rfl
  refine one_ (i := 7) (N := some 67) #[true, true, true, true, true, true, true, true, false] rfl rfl (by kernel_rfl) (by decide) (fun K hK => ?_)
  refine goesV_ Try.func85 (by kernel_rfl) rfl #[.int .i64 d, .int .i64 cost] (by rfl) rfl rfl (by rfl) (by simp only [List.map_toArray, List.map_cons, List.map_nil]; rfl) ?_
  with_reducible refine (C85.out wr.drew).mono ?_
  rintro r w6 ⟨rfl, b6⟩
  have BB6 : Hid (Below wr.heap.size wr w6) := (Below.refl _ _).drew.trans b6
  have e6 := Eff.of_below b6 (fun _ => False)
  clear b6
  refine ⟨_, rfl, ?_⟩
  refine hK.out _ _ ⟨(Eff.cell e6 hHeld.1 (fun h => h)), (Eff.cell e6 hHeld.2.1 (fun h => h)), (Eff.cell e6 hHeld.2.2 (fun h => h))⟩ (fun hHeld => ?_)
  clear hK K
  refine norm_ (a' := ?_) ?_ ?_
  rotate_left
  · show Act.put _ (some 67) _ = _
    simp only [Act.put, List.setIfInBounds_toArray, List.set_cons_zero, List.set_cons_succ, i64_w, i32_w]
    rfl
  refine pure_ (i := 8) (N := some 12) (v := ?_) (a' := ?_) #[true, true, true, true, true, true, true, true, true] rfl rfl (by kernel_rfl) (fun c a w h => HP.out c a _ _ w h) (Or.inl ⟨by rfl, ?_⟩) ?_ ?_
  rotate_left
  · intro w'
    go_simp
    with_reducible rfl
  rotate_left
  · simp only [Act.put, List.setIfInBounds_toArray, List.set_cons_zero, List.set_cons_succ, i64_w, i32_w]
    rfl
  refine done_ (by kernel_rfl) ?_
  exact HQ.out _ BB6.out _ _ _ _ _ _ _ _

set_option maxHeartbeats 2000000 in
set_option maxRecDepth 100000 in
theorem r60_r7 {bo xb n hn : Nat} {d cost c : Int} {Q : Exit → Act → World → Prop} (hp : ∀ c (a : Act) (i : Nat) (v : Value) w, Q (.panic c) (a.put (some i) v) w → Q (.panic c) a w)
    {u0 u1 u2 u3 u4 u5 u7 u8 u10 u11 u12 u13 u14 u15 u16 u17 u18 u19 u20 u21 u22 u23 u24 u25 u26 u27 u28 u29 u30 u31 u32 u33 u34 u35 u36 u37 u38 u39 u40 u41 u42 u43 u44 u45 u46 u47 u48 u49 u50 u51 u52 u53 u54 u55 u56 u57 u58 u59 u60 u61 u62 : Value} {wr : World} (hhz : (hn : Int) < (n : Int)) (X0 : wr.cell? ⟨xb, 0, none⟩ = some (.int .i64 hn)) (O0 : wr.cell? ⟨bo, hn, none⟩ = some (.int .i64 d)) (X2 : wr.cell? ⟨xb, 2, none⟩ = some (.int .i64 cost)) (C85 : Hid (∀ W : World, Calls Try.prog 85 #[.int .i64 d, .int .i64 cost] W fun r w' => r = .returned (.int .i64 c) ∧ Below W.heap.size W w'))
    (hQ : ∀ (w8 : World), Below wr.heap.size wr w8 → ∀ (t33 t34 t35 t36 t37 t38 t39 t40 : Value), Q .normal { tmps := #[u0, u1, u2, u3, u4, u5, .slice (some ⟨bo, 0, none⟩) n n, u7, u8, .pointer (some ⟨xb, 0, none⟩), .int .i64 c, u11, u12, u13, u14, u15, u16, u17, u18, u19, u20, u21, u22, u23, u24, u25, u26, u27, u28, u29, u30, u31, u32, t33, t34, t35, t36, t37, t38, t39, t40, u41, u42, u43, u44, u45, u46, u47, u48, u49, u50, u51, u52, u53, u54, u55, u56, u57, u58, u59, u60, u61, u62], defers := [] } (w8)) :
    Code.wp Try.prog (reg (Try.f60) 7) Q { tmps := #[u0, u1, u2, u3, u4, u5, .slice (some ⟨bo, 0, none⟩) n n, u7, u8, .pointer (some ⟨xb, 0, none⟩), u10, u11, u12, u13, u14, u15, u16, u17, u18, u19, u20, u21, u22, u23, u24, u25, u26, u27, u28, u29, u30, u31, u32, u33, u34, u35, u36, u37, u38, u39, u40, u41, u42, u43, u44, u45, u46, u47, u48, u49, u50, u51, u52, u53, u54, u55, u56, u57, u58, u59, u60, u61, u62], defers := [] } wr := by
  have HQ := Lib.hid hQ
  have HP := Lib.hid hp
  clear hQ hp
  refine start_ (n := 9) (S := fun w' => w'.cell? ⟨xb, 0, none⟩ = some (.int .i64 hn) ∧ w'.cell? ⟨bo, hn, none⟩ = some (.int .i64 d) ∧ w'.cell? ⟨xb, 2, none⟩ = some (.int .i64 cost)) (ds := []) #[false, false, false, false, false, false, false, false, false] (by kernel_rfl) rfl rfl ⟨X0, O0, X2⟩ (fun hHeld => ?_)
  refine pure_ (i := 0) (N := some 33) (v := ?_) (a' := ?_) #[true, false, false, false, false, false, false, false, false] rfl rfl (by kernel_rfl) (fun c a w h => HP.out c a _ _ w h) (Or.inl ⟨by rfl, ?_⟩) ?_ ?_
  rotate_left
  · intro w'
    go_simp
    with_reducible rfl
  rotate_left
  · simp only [Act.put, List.setIfInBounds_toArray, List.set_cons_zero, List.set_cons_succ, i64_w, i32_w]
    rfl
  refine pure_ (i := 1) (N := some 34) (v := ?_) (a' := ?_) #[true, true, false, false, false, false, false, false, false] rfl rfl (by kernel_rfl) (fun c a w h => HP.out c a _ _ w h) (Or.inl ⟨by rfl, ?_⟩) ?_ ?_
  rotate_left
  · intro w'
    go_simp
    with_reducible rfl
  rotate_left
  · simp only [Act.put, List.setIfInBounds_toArray, List.set_cons_zero, List.set_cons_succ, i64_w, i32_w]
    rfl
  refine pure_ (i := 5) (N := some 38) (v := ?_) (a' := ?_) #[true, true, false, false, false, true, false, false, false] rfl rfl (by kernel_rfl) (fun c a w h => HP.out c a _ _ w h) (Or.inl ⟨by rfl, ?_⟩) ?_ ?_
  rotate_left
  · intro w'
    go_simp
    with_reducible rfl
  rotate_left
  · simp only [Act.put, List.setIfInBounds_toArray, List.set_cons_zero, List.set_cons_succ, i64_w, i32_w]
    rfl
  refine take_ (i := 2) (N := some 35) (v := ?_) (a' := ?_) #[true, true, true, false, false, true, false, false, false] rfl rfl (by kernel_rfl) (fun c a w h => HP.out c a _ _ w h) (Or.inl ⟨by rfl, ?_⟩) hHeld ?_ ?_
  rotate_left
  · rintro w' ⟨s0, s1, s2⟩
    go_simp
    with_reducible rfl
  rotate_left
  · simp only [Act.put, List.setIfInBounds_toArray, List.set_cons_zero, List.set_cons_succ, i64_w, i32_w]
    rfl
  refine pure_ (i := 3) (N := some 36) (v := ?_) (a' := ?_) #[true, true, true, true, false, true, false, false, false] rfl rfl (by kernel_rfl) (fun c a w h => HP.out c a _ _ w h) (Or.inl ⟨by rfl, ?_⟩) ?_ ?_
  rotate_left
  · intro w'
    go_simp
    with_reducible rfl
  rotate_left
  · simp only [Act.put, List.setIfInBounds_toArray, List.set_cons_zero, List.set_cons_succ, i64_w, i32_w]
    rfl
  refine take_ (i := 4) (N := some 37) (v := ?_) (a' := ?_) #[true, true, true, true, true, true, false, false, false] rfl rfl (by kernel_rfl) (fun c a w h => HP.out c a _ _ w h) (Or.inl ⟨by rfl, ?_⟩) hHeld ?_ ?_
  rotate_left
  · rintro w' ⟨s0, s1, s2⟩
    go_simp
    with_reducible rfl
  rotate_left
  · simp only [Act.put, List.setIfInBounds_toArray, List.set_cons_zero, List.set_cons_succ, i64_w, i32_w]
    rfl
  refine take_ (i := 6) (N := some 39) (v := ?_) (a' := ?_) #[true, true, true, true, true, true, true, false, false] rfl rfl (by kernel_rfl) (fun c a w h => HP.out c a _ _ w h) (Or.inl ⟨by rfl, ?_⟩) hHeld ?_ ?_
  rotate_left
  · rintro w' ⟨s0, s1, s2⟩
    go_simp
    with_reducible rfl
  rotate_left
  · simp only [Act.put, List.setIfInBounds_toArray, List.set_cons_zero, List.set_cons_succ, i64_w, i32_w]
    rfl
  refine one_ (i := 7) (N := some 40) #[true, true, true, true, true, true, true, true, false] rfl rfl (by kernel_rfl) (by decide) (fun K hK => ?_)
  refine goesV_ Try.func85 (by kernel_rfl) rfl #[.int .i64 d, .int .i64 cost] (by rfl) rfl rfl (by rfl) (by simp only [List.map_toArray, List.map_cons, List.map_nil]; rfl) ?_
  with_reducible refine (C85.out wr.drew).mono ?_
  rintro r w6 ⟨rfl, b6⟩
  have BB6 : Hid (Below wr.heap.size wr w6) := (Below.refl _ _).drew.trans b6
  have e6 := Eff.of_below b6 (fun _ => False)
  clear b6
  refine ⟨_, rfl, ?_⟩
  refine hK.out _ _ ⟨(Eff.cell e6 hHeld.1 (fun h => h)), (Eff.cell e6 hHeld.2.1 (fun h => h)), (Eff.cell e6 hHeld.2.2 (fun h => h))⟩ (fun hHeld => ?_)
  clear hK K
  refine norm_ (a' := ?_) ?_ ?_
  rotate_left
  · show Act.put _ (some 40) _ = _
    simp only [Act.put, List.setIfInBounds_toArray, List.set_cons_zero, List.set_cons_succ, i64_w, i32_w]
    rfl
  refine pure_ (i := 8) (N := some 10) (v := ?_) (a' := ?_) #[true, true, true, true, true, true, true, true, true] rfl rfl (by kernel_rfl) (fun c a w h => HP.out c a _ _ w h) (Or.inl ⟨by rfl, ?_⟩) ?_ ?_
  rotate_left
  · intro w'
    go_simp
    with_reducible rfl
  rotate_left
  · simp only [Act.put, List.setIfInBounds_toArray, List.set_cons_zero, List.set_cons_succ, i64_w, i32_w]
    rfl
  refine done_ (by kernel_rfl) ?_
  exact HQ.out _ BB6.out _ _ _ _ _ _ _ _

set_option maxHeartbeats 2000000 in
set_option maxRecDepth 100000 in
theorem r58_r6 {bi bo bl n i : Nat} {x y c o : Int} {Q : Exit → Act → World → Prop} (hp : ∀ c (a : Act) (i : Nat) (v : Value) w, Q (.panic c) (a.put (some i) v) w → Q (.panic c) a w)
    {u0 u1 u2 u3 u4 u9 u10 u11 u12 u13 u14 u15 u16 u17 u18 u19 u20 u21 u22 u23 u24 u25 u26 u27 u28 u29 u30 u31 u32 u33 u34 u35 : Value} {wr : World} (hlz : (i : Int) < (n : Int)) (Y0 : wr.cell? ⟨bi, i, none⟩ = some (.int .i64 y)) (X0 : wr.cell? ⟨bo, i, none⟩ = some (.int .i64 x)) (L0 : wr.cell? ⟨bl, i, none⟩ = some (.int .i64 o)) (FZ : Hid (∀ W : World, Below wr.heap.size wr W → W.frozen? ⟨bl, i, none⟩ = false)) (C85 : Hid (∀ W : World, Calls Try.prog 85 #[.int .i64 y, .int .i64 x] W fun r w' => r = .returned (.int .i64 c) ∧ Below W.heap.size W w'))
    (hQ : ∀ (w8 : World), Below wr.heap.size wr w8 → ∀ (t23 t24 t25 t26 t27 t28 t29 t30 t31 t32 t33 t34 : Value), Q .normal { tmps := #[u0, u1, u2, u3, u4, .slice (some ⟨bi, 0, none⟩) n n, .slice (some ⟨bo, 0, none⟩) n n, .slice (some ⟨bl, 0, none⟩) n n, .int .i64 i, u9, u10, u11, u12, u13, u14, u15, u16, u17, u18, u19, u20, u21, u22, t23, t24, t25, t26, t27, t28, t29, t30, t31, t32, t33, t34, u35], defers := [] } (w8.setCell ⟨bl, i, none⟩ (.int .i64 c))) :
    Code.wp Try.prog (reg (Try.f58) 6) Q { tmps := #[u0, u1, u2, u3, u4, .slice (some ⟨bi, 0, none⟩) n n, .slice (some ⟨bo, 0, none⟩) n n, .slice (some ⟨bl, 0, none⟩) n n, .int .i64 i, u9, u10, u11, u12, u13, u14, u15, u16, u17, u18, u19, u20, u21, u22, u23, u24, u25, u26, u27, u28, u29, u30, u31, u32, u33, u34, u35], defers := [] } wr := by
  have HQ := Lib.hid hQ
  have HP := Lib.hid hp
  clear hQ hp
  refine start_ (n := 13) (S := fun w' => w'.cell? ⟨bi, i, none⟩ = some (.int .i64 y) ∧ w'.cell? ⟨bo, i, none⟩ = some (.int .i64 x) ∧ w'.cell? ⟨bl, i, none⟩ = some (.int .i64 o)) (ds := [12]) #[false, false, false, false, false, false, false, false, false, false, false, false, false] (by kernel_rfl) rfl rfl ⟨Y0, X0, L0⟩ (fun hHeld => ?_)
  refine pure_ (i := 0) (N := some 23) (v := ?_) (a' := ?_) #[true, false, false, false, false, false, false, false, false, false, false, false, false] rfl rfl (by kernel_rfl) (fun c a w h => HP.out c a _ _ w h) (Or.inl ⟨by rfl, ?_⟩) ?_ ?_
  rotate_left
  · intro w'
    go_simp
    with_reducible rfl
  rotate_left
  · simp only [Act.put, List.setIfInBounds_toArray, List.set_cons_zero, List.set_cons_succ, i64_w, i32_w]
    rfl
  refine pure_ (i := 1) (N := some 24) (v := ?_) (a' := ?_) #[true, true, false, false, false, false, false, false, false, false, false, false, false] rfl rfl (by kernel_rfl) (fun c a w h => HP.out c a _ _ w h) (Or.inl ⟨by rfl, ?_⟩) ?_ ?_
  rotate_left
  · intro w'
    go_simp
    with_reducible rfl
  rotate_left
  · simp only [Act.put, List.setIfInBounds_toArray, List.set_cons_zero, List.set_cons_succ, i64_w, i32_w]
    rfl
  refine pure_ (i := 2) (N := some 25) (v := ?_) (a' := ?_) #[true, true, true, false, false, false, false, false, false, false, false, false, false] rfl rfl (by kernel_rfl) (fun c a w h => HP.out c a _ _ w h) (Or.inl ⟨by rfl, ?_⟩) ?_ ?_
  rotate_left
  · intro w'
    go_simp
    with_reducible rfl
  rotate_left
  · simp only [Act.put, List.setIfInBounds_toArray, List.set_cons_zero, List.set_cons_succ, i64_w, i32_w]
    rfl
  refine pure_ (i := 3) (N := some 26) (v := ?_) (a' := ?_) #[true, true, true, true, false, false, false, false, false, false, false, false, false] rfl rfl (by kernel_rfl) (fun c a w h => HP.out c a _ _ w h) (Or.inl ⟨by rfl, ?_⟩) ?_ ?_
  rotate_left
  · intro w'
    go_simp
    with_reducible rfl
  rotate_left
  · simp only [Act.put, List.setIfInBounds_toArray, List.set_cons_zero, List.set_cons_succ, i64_w, i32_w]
    rfl
  refine pure_ (i := 4) (N := some 27) (v := ?_) (a' := ?_) #[true, true, true, true, true, false, false, false, false, false, false, false, false] rfl rfl (by kernel_rfl) (fun c a w h => HP.out c a _ _ w h) (Or.inl ⟨by rfl, ?_⟩) ?_ ?_
  rotate_left
  · intro w'
    go_simp
    with_reducible rfl
  rotate_left
  · simp only [Act.put, List.setIfInBounds_toArray, List.set_cons_zero, List.set_cons_succ, i64_w, i32_w]
    rfl
  refine pure_ (i := 6) (N := some 29) (v := ?_) (a' := ?_) #[true, true, true, true, true, false, true, false, false, false, false, false, false] rfl rfl (by kernel_rfl) (fun c a w h => HP.out c a _ _ w h) (Or.inl ⟨by rfl, ?_⟩) ?_ ?_
  rotate_left
  · intro w'
    go_simp
    with_reducible rfl
  rotate_left
  · simp only [Act.put, List.setIfInBounds_toArray, List.set_cons_zero, List.set_cons_succ, i64_w, i32_w]
    rfl
  refine pure_ (i := 7) (N := some 30) (v := ?_) (a' := ?_) #[true, true, true, true, true, false, true, true, false, false, false, false, false] rfl rfl (by kernel_rfl) (fun c a w h => HP.out c a _ _ w h) (Or.inl ⟨by rfl, ?_⟩) ?_ ?_
  rotate_left
  · intro w'
    go_simp
    with_reducible rfl
  rotate_left
  · simp only [Act.put, List.setIfInBounds_toArray, List.set_cons_zero, List.set_cons_succ, i64_w, i32_w]
    rfl
  refine pure_ (i := 8) (N := some 31) (v := ?_) (a' := ?_) #[true, true, true, true, true, false, true, true, true, false, false, false, false] rfl rfl (by kernel_rfl) (fun c a w h => HP.out c a _ _ w h) (Or.inl ⟨by rfl, ?_⟩) ?_ ?_
  rotate_left
  · intro w'
    go_simp
    with_reducible rfl
  rotate_left
  · simp only [Act.put, List.setIfInBounds_toArray, List.set_cons_zero, List.set_cons_succ, i64_w, i32_w]
    rfl
  refine take_ (i := 5) (N := some 28) (v := ?_) (a' := ?_) #[true, true, true, true, true, true, true, true, true, false, false, false, false] rfl rfl (by kernel_rfl) (fun c a w h => HP.out c a _ _ w h) (Or.inl ⟨by rfl, ?_⟩) hHeld ?_ ?_
  rotate_left
  · rintro w' ⟨s0, s1, s2⟩
    go_simp
    with_reducible rfl
  rotate_left
  · simp only [Act.put, List.setIfInBounds_toArray, List.set_cons_zero, List.set_cons_succ, i64_w, i32_w]
    rfl
  refine take_ (i := 9) (N := some 32) (v := ?_) (a' := ?_) #[true, true, true, true, true, true, true, true, true, true, false, false, false] rfl rfl (by kernel_rfl) (fun c a w h => HP.out c a _ _ w h) (Or.inl ⟨by rfl, ?_⟩) hHeld ?_ ?_
  rotate_left
  · rintro w' ⟨s0, s1, s2⟩
    go_simp
    with_reducible rfl
  rotate_left
  · simp only [Act.put, List.setIfInBounds_toArray, List.set_cons_zero, List.set_cons_succ, i64_w, i32_w]
    rfl
  refine one_ (i := 10) (N := some 33) #[true, true, true, true, true, true, true, true, true, true, true, false, false] rfl rfl (by kernel_rfl) (by decide) (fun K hK => ?_)
  refine goesV_ Try.func85 (by kernel_rfl) rfl #[.int .i64 y, .int .i64 x] (by rfl) rfl rfl (by rfl) (by simp only [List.map_toArray, List.map_cons, List.map_nil]; rfl) ?_
  with_reducible refine (C85.out wr.drew).mono ?_
  rintro r w6 ⟨rfl, b6⟩
  have BB6 : Hid (Below wr.heap.size wr w6) := (Below.refl _ _).drew.trans b6
  have e6 := Eff.of_below b6 (fun _ => False)
  clear b6
  refine ⟨_, rfl, ?_⟩
  refine hK.out _ _ ⟨(Eff.cell e6 hHeld.1 (fun h => h)), (Eff.cell e6 hHeld.2.1 (fun h => h)), (Eff.cell e6 hHeld.2.2 (fun h => h))⟩ (fun hHeld => ?_)
  clear hK K
  refine norm_ (a' := ?_) ?_ ?_
  rotate_left
  · show Act.put _ (some 33) _ = _
    simp only [Act.put, List.setIfInBounds_toArray, List.set_cons_zero, List.set_cons_succ, i64_w, i32_w]
    rfl
  refine pure_ (i := 11) (N := some 34) (v := ?_) (a' := ?_) #[true, true, true, true, true, true, true, true, true, true, true, true, false] rfl rfl (by kernel_rfl) (fun c a w h => HP.out c a _ _ w h) (Or.inl ⟨by rfl, ?_⟩) ?_ ?_
  rotate_left
  · intro w'
    go_simp
    with_reducible rfl
  rotate_left
  · simp only [Act.put, List.setIfInBounds_toArray, List.set_cons_zero, List.set_cons_succ, i64_w, i32_w]
    rfl
  refine last_ (i := 12) (N := none) #[true, true, true, true, true, true, true, true, true, true, true, true, true] rfl rfl (by kernel_rfl) (by decide) (fun K hK => ?_)
  refine skip_ (w1 := w6.setCell ⟨bl, i, none⟩ (.int .i64 c)) (by rfl) rfl (run_u (run_storeAt_one (w := w6) (by kernel_rfl) rfl (o := .int .i64 o) hHeld.2.2 (FZ.out _ BB6.out))) ?_
  refine hK.out _ _ ?_
  clear hK K
  refine done_ (by kernel_rfl) ?_
  exact HQ.out _ BB6.out _ _ _ _ _ _ _ _ _ _ _ _

set_option maxHeartbeats 2000000 in
set_option maxRecDepth 100000 in
theorem r58_r1 {hb n len cap : Nat} {root : Int} {A : Option Addr} {E : List K.Ed} {Q : Exit → Act → World → Prop} (hp : ∀ c (a : Act) (i : Nat) (v : Value) w, Q (.panic c) (a.put (some i) v) w → Q (.panic c) a w)
    {u0 u3 u4 u5 u6 u7 u8 u9 u10 u11 u12 u13 u14 u15 u16 u17 u18 u19 u20 u21 u22 u23 u24 u25 u26 u27 u28 u29 u30 u31 u32 u33 u34 u35 : Value} {wr : World} (HR : wr.rangeAt hb 0 [.int .i64 n, .slice A len cap]) (C84 : Hid (∀ W : World, Below wr.heap.size wr W → Calls Try.prog 84 #[.agg #[.int .i64 n, .slice A len cap]] W (InPost W n E))) (C57 : Hid (∀ W : World, Below wr.heap.size wr W → Calls Try.prog 57 #[.agg #[.int .i64 n, .slice A len cap], .int .i64 root] W (RPost W E n n root fOut)))
    (hQ : ∀ (bi bo : Nat) (v : Nat → K.V) (f : Nat → Int) (v' : Nat → K.V) (f' out : Nat → Int) (w8 : World), K.Sol E n v f → Below wr.heap.size wr w8 ∧ K.Sol E n v' f' ∧ OutIs E n (fun i => (v' i).1) root out ∧ w8.rowIs bo 3 n (intRow out) ∧ w8.rowIs bi 3 n (intRow (fun i => (v i).1)) → ∀ (t9 t10 t11 t12 t13 : Value), Q .normal { tmps := #[u0, .int .i64 root, .pointer (some ⟨hb, 0, none⟩), u3, u4, .slice (some ⟨bi, 0, none⟩) n n, .slice (some ⟨bo, 0, none⟩) n n, u7, u8, t9, t10, t11, t12, t13, u14, u15, u16, u17, u18, u19, u20, u21, u22, u23, u24, u25, u26, u27, u28, u29, u30, u31, u32, u33, u34, u35], defers := [] } (w8)) :
    Code.wp Try.prog (reg (Try.f58) 1) Q { tmps := #[u0, .int .i64 root, .pointer (some ⟨hb, 0, none⟩), u3, u4, u5, u6, u7, u8, u9, u10, u11, u12, u13, u14, u15, u16, u17, u18, u19, u20, u21, u22, u23, u24, u25, u26, u27, u28, u29, u30, u31, u32, u33, u34, u35], defers := [] } wr := by
  have HQ := Lib.hid hQ
  have HP := Lib.hid hp
  clear hQ hp
  refine start_ (n := 7) (S := fun w' => w'.rangeAt hb 0 [.int .i64 n, .slice A len cap]) (ds := []) #[false, false, false, false, false, false, false] (by kernel_rfl) rfl rfl HR (fun hHeld => ?_)
  refine pure_ (i := 3) (N := some 12) (v := ?_) (a' := ?_) #[false, false, false, true, false, false, false] rfl rfl (by kernel_rfl) (fun c a w h => HP.out c a _ _ w h) (Or.inl ⟨by rfl, ?_⟩) ?_ ?_
  rotate_left
  · intro w'
    go_simp
    with_reducible rfl
  rotate_left
  · simp only [Act.put, List.setIfInBounds_toArray, List.set_cons_zero, List.set_cons_succ, i64_w, i32_w]
    rfl
  refine take_ (i := 0) (N := some 9) (a' := ?_) #[true, false, false, true, false, false, false] rfl rfl (by kernel_rfl) (fun c a w h => HP.out c a _ _ w h) (yieldsIf_load_mid (by rfl) 48 _ rfl hb 0 (by rfl) [.int .i64 n, .slice A len cap] _ (fun w' h => h) Try.underlying48 rfl (by kernel_rfl)) hHeld ?_ ?_
  rotate_left
  · simp only [Act.put, List.setIfInBounds_toArray, List.set_cons_zero, List.set_cons_succ, i64_w, i32_w]
    rfl
  refine take_ (i := 2) (N := some 11) (a' := ?_) #[true, false, true, true, false, false, false] rfl rfl (by kernel_rfl) (fun c a w h => HP.out c a _ _ w h) (yieldsIf_load_mid (by rfl) 48 _ rfl hb 0 (by rfl) [.int .i64 n, .slice A len cap] _ (fun w' h => h) Try.underlying48 rfl (by kernel_rfl)) hHeld ?_ ?_
  rotate_left
  · simp only [Act.put, List.setIfInBounds_toArray, List.set_cons_zero, List.set_cons_succ, i64_w, i32_w]
    rfl
  refine one_ (i := 1) (N := some 10) #[true, true, true, true, false, false, false] rfl rfl (by kernel_rfl) (by decide) (fun K hK => ?_)
  refine goesV_ Try.func84 (by kernel_rfl) rfl #[.agg #[.int .i64 n, .slice A len cap]] (by rfl) rfl rfl (by rfl) (by simp only [List.map_toArray, List.map_cons, List.map_nil]; rfl) ?_
  with_reducible refine (C84.out _ (Below.refl wr.heap.size wr).drew).mono ?_
  rintro r w5 ⟨bi, v, f, rfl, hs, hr5, b5, hg5⟩
  have BB5 : Hid (Below wr.heap.size wr w5) := (Below.refl _ _).drew.trans b5
  have e5 := Eff.of_below b5 (fun _ => False)
  have HS := Lib.hid (And.intro hs hr5)
  clear b5 hs hr5 hg5
  refine ⟨_, rfl, ?_⟩
  refine hK.out _ _ (rangeAt_eff hHeld e5 (fun h => h)) (fun hHeld => ?_)
  clear hK K
  refine norm_ (a' := ?_) ?_ ?_
  rotate_left
  · show Act.put _ (some 10) _ = _
    simp only [Act.put, List.setIfInBounds_toArray, List.set_cons_zero, List.set_cons_succ, i64_w, i32_w]
    rfl
  refine one_ (i := 4) (N := some 13) #[true, true, true, true, true, false, false] rfl rfl (by kernel_rfl) (by decide) (fun K hK => ?_)
  refine goesV_ Try.func57 (by kernel_rfl) rfl #[.agg #[.int .i64 n, .slice A len cap], .int .i64 root] (by rfl) rfl rfl (by rfl) (by simp only [List.map_toArray, List.map_cons, List.map_nil]; rfl) ?_
  with_reducible refine (C57.out _ BB5.out).mono ?_
  rintro r w6 ⟨bo, v', f', out, rfl, hs', ho, hr6, b6, hg6⟩
  have BB6 : Hid (Below wr.heap.size wr w6 ∧ Go.Proofs.Ytepfbhigeghjjaa.K.Sol E n v' f' ∧ OutIs E n (fun i => (v' i).1) root out ∧ w6.rowIs bo 3 n (intRow out) ∧ w6.rowIs bi 3 n (intRow (fun i => (v i).1))) := ⟨BB5.out.trans (b6.mono BB5.out.size), hs', ho, hr6, row_below HS.out.2 b6⟩
  have e6 := Eff.of_below b6 (fun _ => False)
  clear b6 hs' ho hr6 hg6
  refine ⟨_, rfl, ?_⟩
  refine hK.out _ _ (rangeAt_eff hHeld e6 (fun h => h)) (fun hHeld => ?_)
  clear hK K
  refine norm_ (a' := ?_) ?_ ?_
  rotate_left
  · show Act.put _ (some 13) _ = _
    simp only [Act.put, List.setIfInBounds_toArray, List.set_cons_zero, List.set_cons_succ, i64_w, i32_w]
    rfl
  refine pure_ (i := 5) (N := some 5) (v := ?_) (a' := ?_) #[true, true, true, true, true, true, false] rfl rfl (by kernel_rfl) (fun c a w h => HP.out c a _ _ w h) (Or.inl ⟨by rfl, ?_⟩) ?_ ?_
  rotate_left
  · intro w'
    go_simp
    with_reducible rfl
  rotate_left
  · simp only [Act.put, List.setIfInBounds_toArray, List.set_cons_zero, List.set_cons_succ, i64_w, i32_w]
    rfl
  refine pure_ (i := 6) (N := some 6) (v := ?_) (a' := ?_) #[true, true, true, true, true, true, true] rfl rfl (by kernel_rfl) (fun c a w h => HP.out c a _ _ w h) (Or.inl ⟨by rfl, ?_⟩) ?_ ?_
  rotate_left
  · intro w'
    go_simp
    with_reducible rfl
  rotate_left
  · simp only [Act.put, List.setIfInBounds_toArray, List.set_cons_zero, List.set_cons_succ, i64_w, i32_w]
    rfl
  refine done_ (by kernel_rfl) ?_
  exact HQ.out _ _ _ _ _ _ _ _ HS.out.1 BB6.out _ _ _ _ _

set_option maxHeartbeats 2000000 in
set_option maxRecDepth 100000 in
theorem r60_r1 {hb n len cap : Nat} {root : Int} {A : Option Addr} {E : List K.Ed} {Q : Exit → Act → World → Prop} (hp : ∀ c (a : Act) (i : Nat) (v : Value) w, Q (.panic c) (a.put (some i) v) w → Q (.panic c) a w)
    {u0 u3 u4 u5 u6 u7 u8 u9 u10 u11 u12 u13 u14 u15 u16 u17 u18 u19 u20 u21 u22 u23 u24 u25 u26 u27 u28 u29 u30 u31 u32 u33 u34 u35 u36 u37 u38 u39 u40 u41 u42 u43 u44 u45 u46 u47 u48 u49 u50 u51 u52 u53 u54 u55 u56 u57 u58 u59 u60 u61 u62 : Value} {wr : World} (HR : wr.rangeAt hb 0 [.int .i64 n, .slice A len cap]) (C84 : Hid (∀ W : World, Below wr.heap.size wr W → Calls Try.prog 84 #[.agg #[.int .i64 n, .slice A len cap]] W (InPost W n E))) (C57 : Hid (∀ W : World, Below wr.heap.size wr W → Calls Try.prog 57 #[.agg #[.int .i64 n, .slice A len cap], .int .i64 root] W (RPost W E n n root fOut)))
    (hQ : ∀ (bi bo : Nat) (v : Nat → K.V) (f : Nat → Int) (v' : Nat → K.V) (f' out : Nat → Int) (w8 : World), K.Sol E n v f → Below wr.heap.size wr w8 ∧ K.Sol E n v' f' ∧ OutIs E n (fun i => (v' i).1) root out ∧ w8.rowIs bo 3 n (intRow out) ∧ w8.rowIs bi 3 n (intRow (fun i => (v i).1)) → ∀ (t12 t13 t14 t15 t16 : Value), Q .normal { tmps := #[u0, .int .i64 root, .pointer (some ⟨hb, 0, none⟩), u3, u4, .slice (some ⟨bi, 0, none⟩) n n, .slice (some ⟨bo, 0, none⟩) n n, u7, u8, u9, u10, u11, t12, t13, t14, t15, t16, u17, u18, u19, u20, u21, u22, u23, u24, u25, u26, u27, u28, u29, u30, u31, u32, u33, u34, u35, u36, u37, u38, u39, u40, u41, u42, u43, u44, u45, u46, u47, u48, u49, u50, u51, u52, u53, u54, u55, u56, u57, u58, u59, u60, u61, u62], defers := [] } (w8)) :
    Code.wp Try.prog (reg (Try.f60) 1) Q { tmps := #[u0, .int .i64 root, .pointer (some ⟨hb, 0, none⟩), u3, u4, u5, u6, u7, u8, u9, u10, u11, u12, u13, u14, u15, u16, u17, u18, u19, u20, u21, u22, u23, u24, u25, u26, u27, u28, u29, u30, u31, u32, u33, u34, u35, u36, u37, u38, u39, u40, u41, u42, u43, u44, u45, u46, u47, u48, u49, u50, u51, u52, u53, u54, u55, u56, u57, u58, u59, u60, u61, u62], defers := [] } wr := by
  have HQ := Lib.hid hQ
  have HP := Lib.hid hp
  clear hQ hp
  refine start_ (n := 7) (S := fun w' => w'.rangeAt hb 0 [.int .i64 n, .slice A len cap]) (ds := []) #[false, false, false, false, false, false, false] (by kernel_rfl) rfl rfl HR (fun hHeld => ?_)
  refine pure_ (i := 3) (N := some 15) (v := ?_) (a' := ?_) #[false, false, false, true, false, false, false] rfl rfl (by kernel_rfl) (fun c a w h => HP.out c a _ _ w h) (Or.inl ⟨by rfl, ?_⟩) ?_ ?_
  rotate_left
  · intro w'
    go_simp
    with_reducible rfl
  rotate_left
  · simp only [Act.put, List.setIfInBounds_toArray, List.set_cons_zero, List.set_cons_succ, i64_w, i32_w]
    rfl
  refine take_ (i := 0) (N := some 12) (a' := ?_) #[true, false, false, true, false, false, false] rfl rfl (by kernel_rfl) (fun c a w h => HP.out c a _ _ w h) (yieldsIf_load_mid (by rfl) 48 _ rfl hb 0 (by rfl) [.int .i64 n, .slice A len cap] _ (fun w' h => h) Try.underlying48 rfl (by kernel_rfl)) hHeld ?_ ?_
  rotate_left
  · simp only [Act.put, List.setIfInBounds_toArray, List.set_cons_zero, List.set_cons_succ, i64_w, i32_w]
    rfl
  refine take_ (i := 2) (N := some 14) (a' := ?_) #[true, false, true, true, false, false, false] rfl rfl (by kernel_rfl) (fun c a w h => HP.out c a _ _ w h) (yieldsIf_load_mid (by rfl) 48 _ rfl hb 0 (by rfl) [.int .i64 n, .slice A len cap] _ (fun w' h => h) Try.underlying48 rfl (by kernel_rfl)) hHeld ?_ ?_
  rotate_left
  · simp only [Act.put, List.setIfInBounds_toArray, List.set_cons_zero, List.set_cons_succ, i64_w, i32_w]
    rfl
  refine one_ (i := 1) (N := some 13) #[true, true, true, true, false, false, false] rfl rfl (by kernel_rfl) (by decide) (fun K hK => ?_)
  refine goesV_ Try.func84 (by kernel_rfl) rfl #[.agg #[.int .i64 n, .slice A len cap]] (by rfl) rfl rfl (by rfl) (by simp only [List.map_toArray, List.map_cons, List.map_nil]; rfl) ?_
  with_reducible refine (C84.out _ (Below.refl wr.heap.size wr).drew).mono ?_
  rintro r w5 ⟨bi, v, f, rfl, hs, hr5, b5, hg5⟩
  have BB5 : Hid (Below wr.heap.size wr w5) := (Below.refl _ _).drew.trans b5
  have e5 := Eff.of_below b5 (fun _ => False)
  have HS := Lib.hid (And.intro hs hr5)
  clear b5 hs hr5 hg5
  refine ⟨_, rfl, ?_⟩
  refine hK.out _ _ (rangeAt_eff hHeld e5 (fun h => h)) (fun hHeld => ?_)
  clear hK K
  refine norm_ (a' := ?_) ?_ ?_
  rotate_left
  · show Act.put _ (some 13) _ = _
    simp only [Act.put, List.setIfInBounds_toArray, List.set_cons_zero, List.set_cons_succ, i64_w, i32_w]
    rfl
  refine one_ (i := 4) (N := some 16) #[true, true, true, true, true, false, false] rfl rfl (by kernel_rfl) (by decide) (fun K hK => ?_)
  refine goesV_ Try.func57 (by kernel_rfl) rfl #[.agg #[.int .i64 n, .slice A len cap], .int .i64 root] (by rfl) rfl rfl (by rfl) (by simp only [List.map_toArray, List.map_cons, List.map_nil]; rfl) ?_
  with_reducible refine (C57.out _ BB5.out).mono ?_
  rintro r w6 ⟨bo, v', f', out, rfl, hs', ho, hr6, b6, hg6⟩
  have BB6 : Hid (Below wr.heap.size wr w6 ∧ Go.Proofs.Ytepfbhigeghjjaa.K.Sol E n v' f' ∧ OutIs E n (fun i => (v' i).1) root out ∧ w6.rowIs bo 3 n (intRow out) ∧ w6.rowIs bi 3 n (intRow (fun i => (v i).1))) := ⟨BB5.out.trans (b6.mono BB5.out.size), hs', ho, hr6, row_below HS.out.2 b6⟩
  have e6 := Eff.of_below b6 (fun _ => False)
  clear b6 hs' ho hr6 hg6
  refine ⟨_, rfl, ?_⟩
  refine hK.out _ _ (rangeAt_eff hHeld e6 (fun h => h)) (fun hHeld => ?_)
  clear hK K
  refine norm_ (a' := ?_) ?_ ?_
  rotate_left
  · show Act.put _ (some 16) _ = _
    simp only [Act.put, List.setIfInBounds_toArray, List.set_cons_zero, List.set_cons_succ, i64_w, i32_w]
    rfl
  refine pure_ (i := 5) (N := some 5) (v := ?_) (a' := ?_) #[true, true, true, true, true, true, false] rfl rfl (by kernel_rfl) (fun c a w h => HP.out c a _ _ w h) (Or.inl ⟨by rfl, ?_⟩) ?_ ?_
  rotate_left
  · intro w'
    go_simp
    with_reducible rfl
  rotate_left
  · simp only [Act.put, List.setIfInBounds_toArray, List.set_cons_zero, List.set_cons_succ, i64_w, i32_w]
    rfl
  refine pure_ (i := 6) (N := some 6) (v := ?_) (a' := ?_) #[true, true, true, true, true, true, true] rfl rfl (by kernel_rfl) (fun c a w h => HP.out c a _ _ w h) (Or.inl ⟨by rfl, ?_⟩) ?_ ?_
  rotate_left
  · intro w'
    go_simp
    with_reducible rfl
  rotate_left
  · simp only [Act.put, List.setIfInBounds_toArray, List.set_cons_zero, List.set_cons_succ, i64_w, i32_w]
    rfl
  refine done_ (by kernel_rfl) ?_
  exact HQ.out _ _ _ _ _ _ _ _ HS.out.1 BB6.out _ _ _ _ _

set_option maxRecDepth 100000 in
theorem plus85 {a b c : Int} (ha : 0 ≤ a ∧ a ≤ 1099511627776) (hb : 0 ≤ b ∧ b ≤ 1099511627776) (hc : min (a + b) 1099511627776 = c) (w : World) : Calls Try.prog 85 #[.int .i64 a, .int .i64 b] w fun r w' => r = .returned (.int .i64 c) ∧ Below w.heap.size w w' := by
  have hw : IntKind.i64.wrap (a + b) = a + b := IntWalk.i64_in _ (by omega)
  by_cases hm : a + b ≤ 1099511627776
  · obtain rfl : a + b = c := by omega
    clear hc
    go_enter Try.func85, Try.ntmps85
    go_wp2_with fail
    go_ret
    exact ⟨rfl, Below.refl _ _⟩
  · obtain rfl : (1099511627776 : Int) = c := by omega
    clear hc
    go_enter Try.func85, Try.ntmps85
    go_wp2_with fail
    go_ret
    exact ⟨rfl, Below.refl _ _⟩
set_option maxHeartbeats 4000000 in
set_option maxRecDepth 100000 in
theorem inside84 {w : World} {n cap : Nat} {A : Option Addr} {es : List REd} (hA : EdsIn w A es) (hok : ∀ e ∈ es, e.ok n) (hn : n ≤ 1000) (hm : es.length ≤ 1000) :
    Calls Try.prog 84 #[.agg #[.int .i64 n, .slice A es.length cap]] w (InPost w n (es.map REd.plain)) := by
  have al : Below w.heap.size w (w.alloc (.cells #[.int .i64 n, .slice A es.length cap] 48)) := (Below.refl _ _).alloc (Nat.le_refl _) _
  have C50 := Lib.hid (solve51 (ecap := cap) (hA.below al) hok hn hm)
  have AL := Lib.hid al
  clear hA hok al
  go_enter Try.func84, Try.ntmps84
  go_wp2_with fail
  with_reducible refine C50.out.mono ?_
  rintro r w3 ⟨bv, be, v, f, rfl, hs, hv, hf, b3, _, _⟩
  have B3 : Hid (Below w.heap.size w w3) := AL.out.trans (b3.mono AL.out.size)
  obtain ⟨W4, hW4⟩ : ∃ W, W = w3.alloc (oI n) := ⟨_, rfl⟩
  obtain ⟨bi, hbi⟩ : ∃ b, b = w3.heap.size := ⟨_, rfl⟩
  have b4 : Below w3.heap.size w3 W4 := by rw [hW4]; exact (Below.refl _ _).alloc (Nat.le_refl _) _
  have S4 : Hid (Below w.heap.size w W4 ∧ ValsAt W4 bv n v ∧ W4.rowIs bi 3 n (intRow (fun j => if j < 0 then (v j).1 else 0))) := ⟨B3.out.trans (b4.mono B3.out.size), hv.bel b4, by rw [hW4, hbi]; exact (row_of (heap_alloc_new w3 (oI n))).congr (fun i _ => by show _ = Value.int .i64 (if i < 0 then (v i).1 else 0); rw [if_neg (Nat.not_lt_zero _)])⟩
  have HGE : Hid (w.heap.size ≤ bi) := by rw [hbi]; exact B3.out.size
  have HS := Lib.hid hs
  have hmk := makeI n (by omega)
  have HW4 := Lib.hid (And.intro hW4 hbi)
  clear b3 hv hs hf hW4 hbi b4
  go_wp2_with fail
  rw [← HW4.out.1, ← HW4.out.2]
  clear hmk HW4
  go_loopg [6] n (fun gk s6 wr => ∃ i : Nat, s6 = .int .i64 i ∧ i ≤ n ∧ n - i ≤ gk ∧ Hid (Below w.heap.size w wr ∧ ValsAt wr bv n v ∧ wr.rowIs bi 3 n (intRow (fun j => if j < i then (v j).1 else 0))))
  case atStart => exact ⟨0, rfl, by omega, by omega, S4.out⟩
  case round =>
    clear S4
    obtain ⟨i, rfl, hi, hk, HR⟩ := hrel
    by_cases hlt : i < n
    · have hlz : (i : Int) < (n : Int) := by omega
      obtain ⟨q, hq⟩ : ∃ x, (v i).1 = x := ⟨_, rfl⟩
      have x1 : wr.cell? ⟨bv, i * 2, none⟩ = some (.int .i64 q) := by have := HR.out.2.1.at_ i hlt 0 (.int .i64 q) (by rw [← hq]; rfl); exact this
      have x3 : wr.cell? ⟨bi, i, none⟩ = some (.int .i64 0) := by
        rw [HR.out.2.2.cell hlt]
        show some (Value.int .i64 (if i < i then (v i).1 else 0)) = _
        rw [if_neg (Nat.lt_irrefl i)]
      have x4 : wr.frozen? ⟨bi, i, none⟩ = false := HR.out.2.2.frozen i
      have S6 : Hid (Below w.heap.size w (wr.setCell ⟨bi, i, none⟩ (.int .i64 q)) ∧ ValsAt (wr.setCell ⟨bi, i, none⟩ (.int .i64 q)) bv n v ∧ (wr.setCell ⟨bi, i, none⟩ (.int .i64 q)).rowIs bi 3 n (intRow (fun j => if j < i + 1 then (v j).1 else 0))) := by
        have he6 : Eff (fun k => k = bi) wr (wr.setCell ⟨bi, i, none⟩ (.int .i64 q)) := eff_setCell wr bi i _
        obtain ⟨c1, k1, _⟩ := HR.out.2.2
        obtain ⟨c2, k2, _⟩ := HR.out.2.1.blk
        refine ⟨HR.out.1.trans (he6.belowB HR.out.1.size (fun k hk => by rw [hk]; exact HGE.out)), HR.out.2.1.eff he6 (ne_of_type k2 k1 (by decide)), ?_⟩
        rw [← hq]
        exact row_next (g := fun j => (v j).1) (h := fun _ => 0) HR.out.2.2
      clear hq
      go_wp2_with fail
      go_roundg (n - (i + 1))
      case measure => omega
      case rel => exact ⟨i + 1, by go_num, by omega, by omega, S6.out⟩
    · have hlz : ¬ (i : Int) < (n : Int) := by omega
      obtain rfl : n = i := by omega
      go_wp2_with fail
      go_ret
      exact ⟨bi, v, f, rfl, HS.out, HR.out.2.2.congr (fun j hj => by show Value.int .i64 (if j < n then (v j).1 else 0) = Value.int .i64 (v j).1; rw [if_pos hj]), HR.out.1, HGE.out⟩
/-- The reference's Outside in memory. -/
structure ROst (w wr : World) (hb bi bo n cap : Nat) (A : Option Addr) (len : Nat) (inn out : Nat → Int) : Prop where
  hdr : HBZ wr hb n len cap A
  inn : wr.rowIs bi 3 n (intRow inn)
  out : wr.rowIs bo 3 n (intRow out)
  below : Below w.heap.size w wr
  ge : w.heap.size ≤ bo ∧ bi ≠ bo
section
variable {w wr W : World} {hb bi bo n cap len : Nat} {A : Option Addr} {inn out : Nat → Int}
theorem ROst.bel (h : ROst w wr hb bi bo n cap A len inn out) (hbl : Below wr.heap.size wr W) : ROst w W hb bi bo n cap A len inn out := ⟨h.hdr.bel hbl, row_below h.inn hbl, row_below h.out hbl, h.below.trans (hbl.mono h.below.size), h.ge⟩
theorem ROst.setOut (h : ROst w wr hb bi bo n cap A len inn out) (i : Nat) (x : Int) : ROst w (wr.setCell ⟨bo, i, none⟩ (.int .i64 x)) hb bi bo n cap A len inn (K.upd out i x) := by
  have he : Eff (fun k => k = bo) wr (wr.setCell ⟨bo, i, none⟩ (.int .i64 x)) := eff_setCell wr bo i _
  obtain ⟨c1, k1, _⟩ := h.out
  have hh : wr.heap[hb]? = _ := h.hdr
  exact ⟨he.heap h.hdr (ne_of_type hh k1 (by decide)), rowIs_eff h.inn he h.ge.2, (h.out.set i (.int .i64 x)).congr (fun j _ => by show (if j = i then Value.int .i64 x else Value.int .i64 (out j)) = Value.int .i64 (K.upd out i x j); unfold K.upd; split <;> rfl), h.below.trans (he.belowB h.below.size (fun k hk => by rw [hk]; exact h.ge.1)), h.ge⟩
theorem ROst.keep (h : ROst w wr hb bi bo n cap A len inn out) {i b : Nat} {x : Value} {c : Array Value} {t : TypeId} (hb : wr.heap[b]? = some (.cells c t (0, 0))) (ht : t ≠ 3) : (wr.setCell ⟨bo, i, none⟩ x).heap[b]? = some (.cells c t (0, 0)) := by
  obtain ⟨c1, k1, _⟩ := h.out
  exact (eff_setCell wr bo i x).heap hb (ne_of_type hb k1 ht)
end
/-- No tail up to here is lowered. -/
def NoO (E : List K.Ed) (inn out : Nat → Int) (k a : Nat) : Prop := ∀ (j : Nat) e (i t : Nat), E[j]? = some e → (j < k ∨ j = k ∧ i < a) → e.tails[i]? = some t → ¬ K.oc inn e (out e.head) i < out t
def SweepO (E : List K.Ed) (n : Nat) (inn : Nat → Int) (root s0 k a : Nat) (out : Nat → Int) (more : Bool) : Prop := K.RO E n inn root out ∧ ((more = false ∧ K.sumO out n = s0 ∧ NoO E inn out k a) ∨ (more = true ∧ K.sumO out n < s0))
section
variable {E : List K.Ed} {n root s0 k a t : Nat} {inn out : Nat → Int} {more : Bool} {e : K.Ed}
theorem SweepO.edge (h : SweepO E n inn root s0 k e.tails.length out more) (he : E[k]? = some e) : SweepO E n inn root s0 (k + 1) 0 out more := by
  refine ⟨h.1, h.2.imp (fun ⟨h1, h2, h3⟩ => ⟨h1, h2, fun j e' i t hj hc ht => ?_⟩) id⟩
  by_cases hjk : j = k
  · subst hjk
    rw [he] at hj
    cases hj
    exact h3 j e i t he (.inr ⟨rfl, (List.getElem?_eq_some_iff.1 ht).1⟩) ht
  · exact h3 j e' i t hj (.inl (by omega)) ht
theorem SweepO.no (h : SweepO E n inn root s0 k a out more) (he : E[k]? = some e) (ht : e.tails[a]? = some t) (hl : ¬ K.oc inn e (out e.head) a < out t) : SweepO E n inn root s0 k (a + 1) out more := by
  refine ⟨h.1, h.2.imp (fun ⟨h1, h2, h3⟩ => ⟨h1, h2, fun j e' i t' hj hc ht' => ?_⟩) id⟩
  by_cases hjk : j = k ∧ i = a
  · obtain ⟨rfl, rfl⟩ := hjk
    rw [he] at hj
    cases hj
    rw [ht] at ht'
    cases ht'
    exact hl
  · exact h3 j e' i t' hj (by omega) ht'
theorem SweepO.yes (hE : ∀ e ∈ E, K.OkE n e) (hin : okIn n inn) (h : SweepO E n inn root s0 k a out more) (he : E[k]? = some e) (ht : e.tails[a]? = some t) (hl : K.oc inn e (out e.head) a < out t) : SweepO E n inn root s0 k (a + 1) (K.upd out t (K.oc inn e (out e.head) a)) true := by
  have hem := List.mem_of_getElem? he
  have htn := (hE e hem).2.1 t (List.mem_of_getElem? ht)
  have h0 := (h.1.ok e.head (hE e hem).1).1
  have h1 := (K.oc_nn (hE e hem) (fun i hi => (hin i hi).1) h0 (a : Int)).1
  have h2 := K.sumO_upd h1 hl n htn
  refine ⟨h.1.step hE (fun i hi => (hin i hi).1) hem ht hl, .inr ⟨rfl, ?_⟩⟩
  rcases h.2 with ⟨_, h3, _⟩ | ⟨_, h3⟩ <;> omega
end
end Go.Proofs.Ytepfbhigeghjjaa.Q
namespace Go.Proofs.Ytepfbhigeghjjaa.Q
open Go.RowKit Go.Proofs.YtepfbhigeghjjaaW.PrintLast
set_option linter.unusedVariables false
set_option linter.unusedSimpArgs false

set_option maxHeartbeats 16000000 in
set_option maxRecDepth 100000 in
theorem out57 {w : World} {n cap : Nat} {A : Option Addr} {es : List REd} (root : Int) (hA : EdsIn w A es) (hok : ∀ e ∈ es, e.ok n) (hn : n ≤ 30) (hm : es.length ≤ 60) :
    Calls Try.prog 57 #[.agg #[.int .i64 n, .slice A es.length cap], .int .i64 root] w (RPost w (es.map REd.plain) n n root fOut) := by
  have HA := Lib.hid hA
  have HOK := Lib.hid hok
  have EOK : Hid (∀ e ∈ es.map REd.plain, K.OkE n e) := edges_ok hok
  obtain ⟨W1, hW1⟩ : ∃ W, W = w.alloc (.cells #[.int .i64 n, .slice A es.length cap] 48) := ⟨_, rfl⟩
  obtain ⟨hb, hhb⟩ : ∃ b, b = w.heap.size := ⟨_, rfl⟩
  have B1 : Hid (Below w.heap.size w W1) := by rw [hW1]; exact (Below.refl _ _).alloc (Nat.le_refl _) _
  have H1 : Hid (HBZ W1 hb n es.length cap A) := by show W1.heap[hb]? = _; rw [hW1, hhb]; exact heap_alloc_new w _
  have HW1 := Lib.hid (And.intro hW1 hhb)
  have C84 : Hid (∀ W : World, Below W1.heap.size W1 W → Calls Try.prog 84 #[.agg #[.int .i64 n, .slice A es.length cap]] W (InPost W n (es.map REd.plain))) := fun W hW => inside84 (cap := cap) (HA.out.below (B1.out.trans (hW.mono B1.out.size))) HOK.out (by omega) (by omega)
  clear hA hok hW1 hhb
  go_enter Try.func57, Try.ntmps57
  go_wp2_with fail
  rw [← HW1.out.1, ← HW1.out.2]
  obtain ⟨y0, y1⟩ := H1.out.c
  have C1 := Lib.hid (C84.out W1 (Below.refl _ _))
  clear C84 HW1
  go_wp2_with fail
  with_reducible refine C1.out.mono ?_
  rintro r w2 ⟨bi, v, f, rfl, hs, hr2, b2, hg2⟩
  have B2 := B1.out.trans (b2.mono B1.out.size)
  have H2 := H1.out.bel b2
  obtain ⟨W3, hW3⟩ : ∃ W, W = w2.alloc (oI n) := ⟨_, rfl⟩
  obtain ⟨bo, hbo⟩ : ∃ b, b = w2.heap.size := ⟨_, rfl⟩
  have B3 : Below w2.heap.size w2 W3 := by rw [hW3]; exact (Below.refl _ _).alloc (Nat.le_refl _) _
  have R3 : Hid (ROst w W3 hb bi bo n cap A es.length (fun i => (v i).1) (fun j => if j < 0 then 1099511627776 else 0)) :=
    ⟨H2.bel B3, row_below hr2 B3, by rw [hW3, hbo]; exact (row_of (heap_alloc_new w2 (oI n))).congr (fun j _ => by show _ = Value.int .i64 (if j < 0 then 1099511627776 else 0); rw [if_neg (Nat.not_lt_zero _)]), B2.trans (B3.mono B2.size), by rw [hbo]; exact B2.size, by rw [hbo]; exact row_ne hr2 (Nat.le_refl _)⟩
  have HS := Lib.hid hs
  have HIN := Lib.hid (sol_ok hs)
  have hmk := makeI n (by omega)
  have HW3 := Lib.hid (And.intro hW3 hbo)
  clear y0 y1
  obtain ⟨y0, y1⟩ := H2.c
  clear hs hr2 b2 hg2 B2 H2 hW3 hbo B3 C1 H1 B1
  go_wp2_with fail
  rw [← HW3.out.1, ← HW3.out.2]
  clear hmk y0 y1 HW3
  go_loopg [7] n (fun gk si wr => ∃ i : Nat, si = .int .i64 i ∧ i ≤ n ∧ n - i ≤ gk ∧ Hid (ROst w wr hb bi bo n cap A es.length (fun i => (v i).1) (fun j => if j < i then 1099511627776 else 0)))
  case atStart => exact ⟨0, rfl, by omega, by omega, R3.out⟩
  case round =>
    clear R3
    obtain ⟨i, rfl, hi, hk, HR0⟩ := hrel
    obtain ⟨y0, y1⟩ := HR0.out.hdr.c
    by_cases hlt : i < n
    · skip
      as_aux_lemma =>
        have hlz : (i : Int) < (n : Int) := by omega
        have x3 : wr.cell? ⟨bo, i, none⟩ = some (.int .i64 0) := by
          rw [HR0.out.out.cell hlt]
          show some (Value.int .i64 (if i < i then 1099511627776 else 0)) = _
          rw [if_neg (Nat.lt_irrefl i)]
        have x4 : wr.frozen? ⟨bo, i, none⟩ = false := HR0.out.out.frozen i
        have S6 : Hid (ROst w (wr.setCell ⟨bo, i, none⟩ (.int .i64 1099511627776)) hb bi bo n cap A es.length (fun i => (v i).1) (fun j => if j < i + 1 then 1099511627776 else 0)) := by
          have h := HR0.out.setOut i 1099511627776
          exact ⟨h.hdr, h.inn, row_next (g := fun _ => 1099511627776) (h := fun _ => 0) HR0.out.out, h.below, h.ge⟩
        go_wp2_with fail
        go_roundg (n - (i + 1))
        case measure => omega
        case rel => exact ⟨i + 1, by go_num, by omega, by omega, S6.out⟩
    · have hlz : ¬ (i : Int) < (n : Int) := by omega
      obtain rfl : n = i := by omega
      clear hlt hi hk
      have HR : Hid (ROst w wr hb bi bo n cap A es.length (fun i => (v i).1) (fun _ => K.INF)) := ⟨HR0.out.hdr, HR0.out.inn, HR0.out.out.congr (fun j hj => by show Value.int .i64 (if j < n then 1099511627776 else 0) = Value.int .i64 K.INF; rw [if_pos hj]), HR0.out.below, HR0.out.ge⟩
      clear HR0
      by_cases hr0 : root < 0
      · go_wp2_with fail
        go_ret
        exact ⟨bo, v, f, fun _ => K.INF, rfl, HS.out, ⟨fun h => by omega, fun _ _ _ => rfl⟩, HR.out.out, HR.out.below, HR.out.ge.1⟩
      by_cases hr1 : (n : Int) ≤ root
      · go_wp2_with fail
        go_ret
        exact ⟨bo, v, f, fun _ => K.INF, rfl, HS.out, ⟨fun h => by omega, fun _ _ _ => rfl⟩, HR.out.out, HR.out.below, HR.out.ge.1⟩
      obtain ⟨root, rfl⟩ : ∃ r : Nat, root = r := ⟨root.toNat, (Int.toNat_of_nonneg (by omega)).symm⟩
      have hrt : root < n := by omega
      have hrz : (root : Int) < (n : Int) := by omega
      have x1 : wr.cell? ⟨bo, root, none⟩ = some (.int .i64 1099511627776) := HR.out.out.cell hrt
      have x2 : wr.frozen? ⟨bo, root, none⟩ = false := HR.out.out.frozen root
      have R4 := Lib.hid (HR.out.setOut root 0)
      clear HR
      go_wp2_with fail
      clear x1 x2 y0 y1
      obtain ⟨M, hM⟩ : ∃ M, M = 2 * K.sumO (K.upd (fun _ => K.INF) root 0) n + 1 := ⟨_, rfl⟩
      have HM := Lib.hid hM
      clear hM
      go_loopg [8] M (fun gk s8 wr => ∃ (more : Bool) (out : Nat → Int), s8 = .bool more ∧ Hid (2 * K.sumO out n + (if more then 1 else 0) ≤ gk ∧ ROst w wr hb bi bo n cap A es.length (fun i => (v i).1) out ∧ K.RO (es.map REd.plain) n (fun i => (v i).1) root out ∧ (more = false → NoO (es.map REd.plain) (fun i => (v i).1) out es.length 0)))
      case atStart => exact ⟨true, _, rfl, by rw [HM.out]; exact Nat.le_refl _, R4.out, K.RO.start, fun h => by cases h⟩
      case round =>
        clear R4 HM
        obtain ⟨more, out, rfl, HR⟩ := hrel
        cases more with
        | false =>
          have FX : Hid (RPost w (es.map REd.plain) n n root fOut (.returned (.slice (some ⟨bo, 0, none⟩) n n)) wr) :=
            ⟨bo, v, f, out, rfl, HS.out, ⟨fun _ => HR.out.2.2.1.done (fun j e he k t ht => HR.out.2.2.2 rfl j e k t he (.inl (by have := (List.getElem?_eq_some_iff.1 he).1; rwa [List.length_map] at this)) ht), fun h => absurd ⟨Int.natCast_nonneg _, hrz⟩ h⟩, HR.out.2.1.out, HR.out.2.1.below, HR.out.2.1.ge.1⟩
          clear HR
          go_wp2_with fail
          go_ret
          exact FX.out
        | true =>
          have HS0 : Hid (2 * K.sumO out n + 1 ≤ gk) := HR.out.1
          have HI : Hid (ROst w wr hb bi bo n cap A es.length (fun i => (v i).1) out ∧ SweepO (es.map REd.plain) n (fun i => (v i).1) root (K.sumO out n) 0 0 out false) := ⟨HR.out.2.1, HR.out.2.2.1, .inl ⟨rfl, rfl, fun j e i t _ hc _ => by omega⟩⟩
          obtain ⟨s0, hs0⟩ : ∃ s, s = K.sumO out n := ⟨_, rfl⟩
          rw [← hs0] at HS0 HI
          clear HR hs0
          go_wp2_with fail
          go_loopg [8, 9] es.length (fun gj s8 s9 wr => ∃ (more : Bool) (k : Nat) (out : Nat → Int), s8 = .bool more ∧ s9 = .int .i64 k ∧ k ≤ es.length ∧ es.length - k ≤ gj ∧ Hid (ROst w wr hb bi bo n cap A es.length (fun i => (v i).1) out ∧ SweepO (es.map REd.plain) n (fun i => (v i).1) root s0 k 0 out more))
          case atStart => exact ⟨false, 0, out, rfl, rfl, by omega, by omega, HI.out⟩
          case round =>
            clear HI
            obtain ⟨more, k', out, rfl, rfl, hi, hk, HR⟩ := hrel
            obtain ⟨y0, y1⟩ := HR.out.1.hdr.c
            by_cases hlt : k' < es.length
            · skip
              as_aux_lemma =>
                have hlz : (k' : Int) < (es.length : Int) := by omega
                obtain ⟨e, he⟩ : ∃ e, es[k']? = some e := ⟨_, List.getElem?_eq_getElem hlt⟩
                have hok := HOK.out e (List.mem_of_getElem? he)
                have HEK : Hid ((es.map REd.plain)[k']? = some e.plain) := by show _ = _; rw [List.getElem?_map, he]; rfl
                have HTI := Lib.hid (HA.out.tails e (List.mem_of_getElem? he))
                obtain ⟨eb0, eo, rfl, z0, z1, z2, z3, z4⟩ := HA.out.c HR.out.1.below he
                obtain ⟨hn', hhn⟩ : ∃ x, e.head.toNat = x := ⟨_, rfl⟩
                have hhe : e.head = (hn' : Int) := by rw [← hhn, Int.toNat_of_nonneg hok.1]
                have hhl : hn' < n := by have := hok.2.1; omega
                have hph : e.plain.head = hn' := hhn
                have htl : e.tails.length ≤ 4 := hok.2.2.2.2.2
                obtain ⟨W2, hW2⟩ : ∃ W, W = wr.alloc (.cells #[.int .i64 e.head, .slice e.A e.tails.length e.cap, .int .i64 e.cost, .int .i64 e.l0, .int .i64 e.l1] 60) := ⟨_, rfl⟩
                obtain ⟨xb, hxb⟩ : ∃ b, b = wr.heap.size := ⟨_, rfl⟩
                have B2 : Below wr.heap.size wr W2 := by rw [hW2]; exact (Below.refl _ _).alloc (Nat.le_refl _) _
                have X2 : EBX W2 xb e := by show W2.heap[xb]? = _; rw [hW2, hxb]; exact heap_alloc_new wr _
                have HI : Hid ((ROst w W2 hb bi bo n cap (some ⟨eb0, eo, none⟩) es.length (fun i => (v i).1) out ∧ EBX W2 xb e) ∧ SweepO (es.map REd.plain) n (fun i => (v i).1) root s0 k' 0 out more) := ⟨⟨HR.out.1.bel B2, X2⟩, HR.out.2⟩
                have HE := Lib.hid (And.intro hok (And.intro hhe hph))
                have HW2 := Lib.hid (And.intro hW2 hxb)
                clear HR he hok hhn hhe hph hW2 hxb B2 X2
                go_wp2_with fail
                rw [← HW2.out.1, ← HW2.out.2]
                clear y0 y1 z0 z1 z2 z3 z4 HW2
                go_loopg [8, 11] e.tails.length (fun gj s8 s11 wr => ∃ (more : Bool) (a : Nat) (out : Nat → Int), s8 = .bool more ∧ s11 = .int .i64 a ∧ a ≤ e.tails.length ∧ e.tails.length - a ≤ gj ∧ Hid ((ROst w wr hb bi bo n cap (some ⟨eb0, eo, none⟩) es.length (fun i => (v i).1) out ∧ EBX wr xb e) ∧ SweepO (es.map REd.plain) n (fun i => (v i).1) root s0 k' a out more))
                case atStart => exact ⟨more, 0, out, rfl, rfl, by omega, by omega, HI.out⟩
                case round =>
                  clear HI
                  obtain ⟨more, a, out, rfl, rfl, ha, hka, HR⟩ := hrel
                  have x1 := HR.out.1.2.c.2.1
                  by_cases hlt3 : a < e.tails.length
                  · skip
                    as_aux_lemma =>
                      have hlz3 : (a : Int) < (e.tails.length : Int) := by omega
                      obtain ⟨t, ht⟩ : ∃ t, e.tails[a]? = some t := ⟨_, List.getElem?_eq_getElem hlt3⟩
                      have ht2 := HE.out.1.2.2.1 t (List.mem_of_getElem? ht)
                      obtain ⟨tn, rfl⟩ : ∃ tn : Nat, t = tn := ⟨t.toNat, (Int.toNat_of_nonneg ht2.1).symm⟩
                      have htn : tn < n := by omega
                      have HPT : Hid (e.plain.tails[a]? = some tn) := by show (e.tails.map Int.toNat)[a]? = _; rw [List.getElem?_map, ht]; rfl
                      have HTA := Lib.hid ht
                      obtain ⟨d, hd⟩ : ∃ x, out hn' = x := ⟨_, rfl⟩
                      have hdo := HR.out.2.1.ok hn' hhl
                      have hI : K.INF = 1099511627776 := rfl
                      rw [hd, hI] at hdo
                      have hcost : 0 ≤ e.cost ∧ e.cost ≤ 1099511627776 := ⟨HE.out.1.2.2.2.1, HE.out.1.2.2.2.2.1⟩
                      obtain ⟨c0, hc0⟩ : ∃ c, min (d + e.cost) 1099511627776 = c := ⟨_, rfl⟩
                      have C85 : Hid (∀ W : World, Calls Try.prog 85 #[.int .i64 d, .int .i64 e.cost] W fun r w' => r = .returned (.int .i64 c0) ∧ Below W.heap.size W w') := plus85 hdo hcost hc0
                      have X0 : Hid (wr.cell? ⟨xb, 0, none⟩ = some (.int .i64 hn')) := by show _ = _; rw [← HE.out.2.1]; exact HR.out.1.2.c.1
                      have O0 : Hid (wr.cell? ⟨bo, hn', none⟩ = some (.int .i64 d)) := by show _ = _; rw [← hd]; exact HR.out.1.1.out.cell hhl
                      have HD := Lib.hid (And.intro hd (And.intro hdo (And.intro hcost hc0)))
                      clear ht ht2 hd hdo hI hcost hc0
                      go_wp2_with fail
                      have hhz : (hn' : Int) < (n : Int) := by omega
                      refine o57_r20 (fun _ _ _ _ _ h => h) hhz X0.out O0.out HR.out.1.2.c.2.2.1 C85 ?_
                      intro w8 b8 t60 t61 t62 t63 t64 t65 t66 t67
                      have HI : Hid ((ROst w w8 hb bi bo n cap (some ⟨eb0, eo, none⟩) es.length (fun i => (v i).1) out ∧ EBX w8 xb e) ∧ min (d + e.cost + K.oth (fun i => (v i).1) (e.plain.tails.take 0) 0 (a : Int)) 1099511627776 = c0) := ⟨⟨HR.out.1.1.bel b8, HR.out.1.2.bel b8⟩, by show min (d + e.cost + 0) _ = _; rw [Int.add_zero]; exact HD.out.2.2.2⟩
                      have HSW := Lib.hid HR.out.2
                      clear b8 C85 X0 O0 x1 HR
                      go_wp2_with fail
                      go_loopg [12, 13] e.tails.length (fun gj s12 s13 wr => ∃ (c : Int) (j : Nat), s12 = .int .i64 c ∧ s13 = .int .i64 j ∧ j ≤ e.tails.length ∧ e.tails.length - j ≤ gj ∧ Hid ((ROst w wr hb bi bo n cap (some ⟨eb0, eo, none⟩) es.length (fun i => (v i).1) out ∧ EBX wr xb e) ∧ min (d + e.cost + K.oth (fun i => (v i).1) (e.plain.tails.take j) 0 (a : Int)) 1099511627776 = c))
                      case atStart => exact ⟨c0, 0, rfl, rfl, by omega, by omega, HI.out⟩
                      case round =>
                        clear HI
                        obtain ⟨c, j, rfl, rfl, hj, hkj, HR⟩ := hrel
                        have x1 := HR.out.1.2.c.2.1
                        by_cases hlt4 : j < e.tails.length
                        · skip
                          as_aux_lemma =>
                            have hlz4 : (j : Int) < (e.tails.length : Int) := by omega
                            obtain ⟨u, hu⟩ : ∃ t, e.tails[j]? = some t := ⟨_, List.getElem?_eq_getElem hlt4⟩
                            have hu2 := HE.out.1.2.2.1 u (List.mem_of_getElem? hu)
                            obtain ⟨un, rfl⟩ : ∃ un : Nat, u = un := ⟨u.toNat, (Int.toNat_of_nonneg hu2.1).symm⟩
                            have hun : un < n := by omega
                            have hpu : e.plain.tails[j]? = some un := by show (e.tails.map Int.toNat)[j]? = _; rw [List.getElem?_map, hu]; rfl
                            have hst := K.oth_take (inn := fun i => (v i).1) (a : Int) hpu
                            have hcc := HR.out.2
                            have hnn : 0 ≤ K.oth (fun i => (v i).1) (e.plain.tails.take j) 0 (a : Int) := oth_nn' HIN.out HE.out.1 (a : Int) j
                            have hd2 := HD.out.2
                            have htl3 : j ≤ 3 := by omega
                            obtain ⟨tb, tof, htA, ct⟩ := HTI.out.c HR.out.1.1.below hu
                            by_cases hja : j = a
                            · have hja' : (j : Int) = (a : Int) := by omega
                              rw [if_pos hja'] at hst
                              have N9 : Hid ((ROst w wr hb bi bo n cap (some ⟨eb0, eo, none⟩) es.length (fun i => (v i).1) out ∧ EBX wr xb e) ∧ min (d + e.cost + K.oth (fun i => (v i).1) (e.plain.tails.take (j + 1)) 0 (a : Int)) 1099511627776 = c) := ⟨HR.out.1, by rw [hst, ← hcc]; omega⟩
                              clear HR hu hu2 hpu hst hcc hnn hd2 htA ct hja'
                              subst hja
                              go_wp2_with fail
                              go_roundg (e.tails.length - (j + 1))
                              case measure => omega
                              case rel => exact ⟨c, j + 1, rfl, by go_num, by omega, by omega, N9.out⟩
                            · have hja' : ¬ (j : Int) = (a : Int) := by omega
                              have hjb : ((j : Int) == (a : Int)) = false := beq_eq_false_iff_ne.2 hja'
                              rw [if_neg hja'] at hst
                              obtain ⟨y, hy⟩ : ∃ y, (v un).1 = y := ⟨_, rfl⟩
                              have hyo : 0 ≤ (v un).1 ∧ (v un).1 ≤ 1099511627776 := HIN.out un hun
                              rw [hy] at hyo
                              have hst : K.oth (fun i => (v i).1) (e.plain.tails.take (j + 1)) 0 (a : Int) = K.oth (fun i => (v i).1) (e.plain.tails.take j) 0 (a : Int) + y := by rw [hst, ← hy]
                              obtain ⟨c', hc'⟩ : ∃ x, min (c + y) 1099511627776 = x := ⟨_, rfl⟩
                              have CC := Lib.hid (plus85 (a := c) (b := y) (by rw [← hcc]; omega) hyo hc' wr)
                              have N9 : Hid ((ROst w wr hb bi bo n cap (some ⟨eb0, eo, none⟩) es.length (fun i => (v i).1) out ∧ EBX wr xb e) ∧ min (d + e.cost + K.oth (fun i => (v i).1) (e.plain.tails.take (j + 1)) 0 (a : Int)) 1099511627776 = c') := ⟨HR.out.1, by rw [hst, ← hc', ← hcc]; omega⟩
                              have x2 : wr.cell? ⟨bi, un, none⟩ = some (.int .i64 y) := by rw [← hy]; exact HR.out.1.1.inn.cell hun
                              have hnz : (un : Int) < (n : Int) := by omega
                              rw [htA] at x1
                              clear HR hu hu2 hpu hst hcc hnn hd2 htA hy hyo hc'
                              go_wp2_with fail
                              with_reducible refine CC.out.mono ?_
                              rintro r w9 ⟨rfl, b9⟩
                              have N10 := Lib.hid (And.intro (And.intro (N9.out.1.1.bel b9) (N9.out.1.2.bel b9)) N9.out.2)
                              clear b9 CC N9 x1 x2
                              go_wp2_with fail
                              go_roundg (e.tails.length - (j + 1))
                              case measure => omega
                              case rel => exact ⟨c', j + 1, rfl, by go_num, by omega, by omega, N10.out⟩

                        · have hlz4 : ¬ (j : Int) < (e.tails.length : Int) := by omega
                          obtain rfl : e.tails.length = j := by omega
                          have hc := HR.out.2
                          rw [show e.plain.tails.take e.tails.length = e.plain.tails from List.take_of_length_le (by show (e.tails.map Int.toNat).length ≤ _; rw [List.length_map]; exact Nat.le_refl _)] at hc
                          have hoc : K.oc (fun i => (v i).1) e.plain (out e.plain.head) (a : Int) = c := by rw [← hc, HE.out.2.2, HD.out.1]; rfl
                          obtain ⟨tb, tof, htA, ct⟩ := HTI.out.c HR.out.1.1.below HTA.out
                          rw [htA] at x1
                          obtain ⟨o, ho⟩ : ∃ x, out tn = x := ⟨_, rfl⟩
                          have x2 : wr.cell? ⟨bo, tn, none⟩ = some (.int .i64 o) := by rw [← ho]; exact HR.out.1.1.out.cell htn
                          have x3 : wr.frozen? ⟨bo, tn, none⟩ = false := HR.out.1.1.out.frozen tn
                          have hnz : (tn : Int) < (n : Int) := by omega
                          have hlz3 : (a : Int) < (e.tails.length : Int) := by omega
                          by_cases hco : c < o
                          · have N9 : Hid ((ROst w (wr.setCell ⟨bo, tn, none⟩ (.int .i64 c)) hb bi bo n cap (some ⟨eb0, eo, none⟩) es.length (fun i => (v i).1) (K.upd out tn c) ∧ EBX (wr.setCell ⟨bo, tn, none⟩ (.int .i64 c)) xb e) ∧ SweepO (es.map REd.plain) n (fun i => (v i).1) root s0 k' (a + 1) (K.upd out tn c) true) :=
                              ⟨⟨HR.out.1.1.setOut tn c, HR.out.1.1.keep HR.out.1.2 (by decide)⟩, by have := HSW.out.yes EOK.out HIN.out HEK.out HPT.out (by rw [hoc, ho]; exact hco); rwa [hoc] at this⟩
                            clear hc hoc htA ho
                            go_wp2_with fail
                            go_roundg (e.tails.length - (a + 1))
                            case measure => omega
                            case rel => exact ⟨true, a + 1, _, rfl, by go_num, by omega, by omega, N9.out⟩
                          · have N9 : Hid ((ROst w wr hb bi bo n cap (some ⟨eb0, eo, none⟩) es.length (fun i => (v i).1) out ∧ EBX wr xb e) ∧ SweepO (es.map REd.plain) n (fun i => (v i).1) root s0 k' (a + 1) out more) :=
                              ⟨HR.out.1, HSW.out.no HEK.out HPT.out (by rw [hoc, ho]; exact hco)⟩
                            clear hc hoc htA ho
                            go_wp2_with fail
                            go_roundg (e.tails.length - (a + 1))
                            case measure => omega
                            case rel => exact ⟨more, a + 1, _, rfl, by go_num, by omega, by omega, N9.out⟩

                  · have hlz3 : ¬ (a : Int) < (e.tails.length : Int) := by omega
                    obtain rfl : e.tails.length = a := by omega
                    go_wp2_with fail
                    go_roundg (es.length - (k' + 1))
                    case measure => omega
                    case rel =>
                      refine ⟨more, k' + 1, out, rfl, by go_num, by omega, by omega, HR.out.1.1, SweepO.edge (e := e.plain) ?_ HEK.out⟩
                      rw [show e.plain.tails.length = e.tails.length from List.length_map _]
                      exact HR.out.2

            · have hlz : ¬ (k' : Int) < (es.length : Int) := by omega
              obtain rfl : es.length = k' := by omega
              go_wp2_with fail
              go_roundg (2 * K.sumO out n + (if more then 1 else 0))
              case measure =>
                have h0 := HS0.out
                rcases HR.out.2.2 with ⟨h1, h2, _⟩ | ⟨h1, h2⟩
                · rw [h1, h2]; simp; omega
                · rw [h1]; simp; omega
              case rel => exact ⟨more, out, rfl, Nat.le_refl _, HR.out.1, HR.out.2.1, fun hm => by
                rcases HR.out.2.2 with ⟨_, _, h3⟩ | ⟨h1, _⟩
                · exact h3
                · rw [hm] at h1; cases h1⟩
end Go.Proofs.Ytepfbhigeghjjaa.Q
namespace Go.Proofs.Ytepfbhigeghjjaa.Q
open Go.RowKit Go.Proofs.YtepfbhigeghjjaaW.PrintLast
set_option linter.unusedVariables false
set_option linter.unusedSimpArgs false

theorem OutIs.congr {E : List K.Ed} {n : Nat} (hE : ∀ e ∈ E, K.OkE n e) {inn inn' : Nat → Int} {root : Int} {out : Nat → Int} (hi : ∀ i, i < n → inn i = inn' i) (h : OutIs E n inn root out) : OutIs E n inn' root out := ⟨fun hr => (h.1 hr).congr hE hi, h.2⟩
/-- A row built from the inside and the outside costs. -/
structure TSt (w wr : World) (hb bi bo bl n cap m : Nat) (A : Option Addr) (len : Nat) (inn out g : Nat → Int) : Prop where
  hdr : HBZ wr hb n len cap A
  inn : wr.rowIs bi 3 n (intRow inn)
  out : wr.rowIs bo 3 n (intRow out)
  row : wr.rowIs bl 3 m (intRow g)
  below : Below w.heap.size w wr
  ge : w.heap.size ≤ bl ∧ bi ≠ bl ∧ bo ≠ bl
section
variable {w wr W : World} {hb bi bo bl n cap m len : Nat} {A : Option Addr} {inn out g : Nat → Int}
theorem TSt.bel (h : TSt w wr hb bi bo bl n cap m A len inn out g) (hbl : Below wr.heap.size wr W) : TSt w W hb bi bo bl n cap m A len inn out g := ⟨h.hdr.bel hbl, row_below h.inn hbl, row_below h.out hbl, row_below h.row hbl, h.below.trans (hbl.mono h.below.size), h.ge⟩
theorem TSt.next {i : Nat} {q : Nat → Int} (h : TSt w wr hb bi bo bl n cap m A len inn out (fun j => if j < i then q j else 0)) : TSt w (wr.setCell ⟨bl, i, none⟩ (.int .i64 (q i))) hb bi bo bl n cap m A len inn out (fun j => if j < i + 1 then q j else 0) := by
  have he : Eff (fun k => k = bl) wr (wr.setCell ⟨bl, i, none⟩ (.int .i64 (q i))) := eff_setCell wr bl i _
  obtain ⟨c1, k1, _⟩ := h.row
  have hh : wr.heap[hb]? = _ := h.hdr
  exact ⟨he.heap h.hdr (ne_of_type hh k1 (by decide)), rowIs_eff h.inn he h.ge.2.1, rowIs_eff h.out he h.ge.2.2, row_next (g := q) (h := fun _ => 0) h.row, h.below.trans (he.belowB h.below.size (fun k hk => by rw [hk]; exact h.ge.1)), h.ge⟩
theorem TSt.old {i : Nat} {q : Nat → Int} (h : TSt w wr hb bi bo bl n cap m A len inn out (fun j => if j < i then q j else 0)) (hi : i < m) : wr.cell? ⟨bl, i, none⟩ = some (.int .i64 0) := by
  rw [h.row.cell hi]
  show some (Value.int .i64 (if i < i then q i else 0)) = _
  rw [if_neg (Nat.lt_irrefl i)]
end

set_option maxHeartbeats 16000000 in
set_option maxRecDepth 100000 in
theorem through58 {w : World} {n cap : Nat} {A : Option Addr} {es : List REd} (root : Int) (hA : EdsIn w A es) (hok : ∀ e ∈ es, e.ok n) (hn : n ≤ 30) (hm : es.length ≤ 60) :
    Calls Try.prog 58 #[.agg #[.int .i64 n, .slice A es.length cap], .int .i64 root] w (RPost w (es.map REd.plain) n n root fThr) := by
  have HA := Lib.hid hA
  have HOK := Lib.hid hok
  have EOK : Hid (∀ e ∈ es.map REd.plain, K.OkE n e) := edges_ok hok
  obtain ⟨W1, hW1⟩ : ∃ W, W = w.alloc (.cells #[.int .i64 n, .slice A es.length cap] 48) := ⟨_, rfl⟩
  obtain ⟨hb, hhb⟩ : ∃ b, b = w.heap.size := ⟨_, rfl⟩
  have B1 : Hid (Below w.heap.size w W1) := by rw [hW1]; exact (Below.refl _ _).alloc (Nat.le_refl _) _
  have H1 : Hid (HBZ W1 hb n es.length cap A) := by show W1.heap[hb]? = _; rw [hW1, hhb]; exact heap_alloc_new w _
  have HW1 := Lib.hid (And.intro hW1 hhb)
  have C84 : Hid (∀ W : World, Below W1.heap.size W1 W → Calls Try.prog 84 #[.agg #[.int .i64 n, .slice A es.length cap]] W (InPost W n (es.map REd.plain))) := fun W hW => inside84 (cap := cap) (HA.out.below (B1.out.trans (hW.mono B1.out.size))) HOK.out (by omega) (by omega)
  clear hA hok hW1 hhb
  go_enter Try.func58, Try.ntmps58
  go_wp2_with fail
  rw [← HW1.out.1, ← HW1.out.2]
  have C57 : Hid (∀ W : World, Below W1.heap.size W1 W → Calls Try.prog 57 #[.agg #[.int .i64 n, .slice A es.length cap], .int .i64 root] W (RPost W (es.map REd.plain) n n root fOut)) := fun W hW => out57 root (HA.out.below (B1.out.trans (hW.mono B1.out.size))) HOK.out hn hm
  refine r58_r1 (fun _ _ _ _ _ h => h) (box_range (L := [.int .i64 n, .slice A es.length cap]) H1.out 0 _ (fun j v h => by rw [Nat.zero_add]; exact h)) C84 C57 ?_
  intro bi bo v f v' f' out w8 hs ⟨b8, hs', ho, hro, hri⟩ t9 t10 t11 t12 t13
  have B8 : Hid (Below w.heap.size w w8) := B1.out.trans (b8.mono B1.out.size)
  have H8 := Lib.hid (H1.out.bel b8)
  have HO : Hid (OutIs (es.map REd.plain) n (fun i => (v i).1) root out ∧ K.Sol (es.map REd.plain) n v f) := ⟨ho.congr EOK.out (fun i hi => by show (v' i).1 = (v i).1; rw [(hs'.unique EOK.out hs i hi).1]), hs⟩
  have HIN := Lib.hid (sol_ok hs)
  obtain ⟨W4, hW4⟩ : ∃ W, W = w8.alloc (oI n) := ⟨_, rfl⟩
  obtain ⟨bl, hbl⟩ : ∃ b, b = w8.heap.size := ⟨_, rfl⟩
  have B4 : Below w8.heap.size w8 W4 := by rw [hW4]; exact (Below.refl _ _).alloc (Nat.le_refl _) _
  have HI : Hid (TSt w W4 hb bi bo bl n cap n A es.length (fun i => (v i).1) out (fun j => if j < 0 then fThr (fun i => (v i).1) out j else 0)) :=
    ⟨H8.out.bel B4, row_below hri B4, row_below hro B4, by rw [hW4, hbl]; exact (row_of (heap_alloc_new w8 (oI n))).congr (fun j _ => by show _ = Value.int .i64 (if j < 0 then _ else 0); rw [if_neg (Nat.not_lt_zero _)]), B8.out.trans (B4.mono B8.out.size), by rw [hbl]; exact ⟨B8.out.size, row_ne hri (Nat.le_refl _), row_ne hro (Nat.le_refl _)⟩⟩
  have hmk := makeI n (by omega)
  have HW4 := Lib.hid (And.intro hW4 hbl)
  obtain ⟨y0, y1⟩ := H8.out.c
  have y2 : (w8.alloc (oI n)).cell? ⟨hb, 0, none⟩ = some (.int .i64 n) := by rw [← hW4]; exact HI.out.hdr.c.1
  clear hs b8 hs' ho hro hri hW4 hbl B4 C57 C84 H1 B1 HW1 B8 H8
  go_wp2_with fail
  rw [← HW4.out.1, ← HW4.out.2]
  clear hmk y0 y1 y2 HW4
  go_loopg [8] n (fun gk si wr => ∃ k : Nat, si = .int .i64 k ∧ k ≤ n ∧ n - k ≤ gk ∧ Hid (TSt w wr hb bi bo bl n cap n A es.length (fun i => (v i).1) out (fun j => if j < k then fThr (fun i => (v i).1) out j else 0)))
  case atStart => exact ⟨0, rfl, by omega, by omega, HI.out⟩
  case round =>
    clear HI
    obtain ⟨k, rfl, hi, hk, HR⟩ := hrel
    obtain ⟨y0, y1⟩ := HR.out.hdr.c
    by_cases hlt : k < n
    · skip
      as_aux_lemma =>
        have hlz : (k : Int) < (n : Int) := by omega
        obtain ⟨x, hx⟩ : ∃ x, out k = x := ⟨_, rfl⟩
        obtain ⟨y, hy⟩ : ∃ y, (v k).1 = y := ⟨_, rfl⟩
        have hxo := outIs_ok HO.out.1 k hlt
        have hyo : 0 ≤ (v k).1 ∧ (v k).1 ≤ 1099511627776 := HIN.out k hlt
        rw [hx] at hxo
        rw [hy] at hyo
        have X0 : Hid (wr.cell? ⟨bo, k, none⟩ = some (.int .i64 x)) := by show _ = _; rw [← hx]; exact HR.out.out.cell hlt
        have Y0 : Hid (wr.cell? ⟨bi, k, none⟩ = some (.int .i64 y)) := by show _ = _; rw [← hy]; exact HR.out.inn.cell hlt
        have FZ : Hid (∀ W : World, Below wr.heap.size wr W → W.frozen? ⟨bl, k, none⟩ = false) := fun W hW => (row_below HR.out.row hW).frozen k
        have L0 := Lib.hid (HR.out.old hlt)
        have hc : min (y + x) 1099511627776 = fThr (fun i => (v i).1) out k := by
          unfold fThr
          show _ = min (out k + (v k).1) _
          rw [hx, hy, Int.add_comm]
        have C85 := Lib.hid (plus85 hyo hxo hc)
        clear hx hy hxo hyo hc
        go_wp2_with fail
        refine r58_r6 (fun _ _ _ _ _ h => h) hlz Y0.out X0.out L0.out FZ C85 ?_
        intro w9 b9 t23 t24 t25 t26 t27 t28 t29 t30 t31 t32 t33 t34
        have N9 := Lib.hid ((HR.out.bel b9).next)
        clear b9 X0 Y0 FZ L0 C85 y0 y1 HR
        go_wp2_with fail
        go_roundg (n - (k + 1))
        case measure => omega
        case rel => exact ⟨k + 1, by go_num, by omega, by omega, N9.out⟩

    · have hlz : ¬ (k : Int) < (n : Int) := by omega
      obtain rfl : n = k := by omega
      go_wp2_with fail
      go_ret
      exact ⟨bl, v, f, out, rfl, HO.out.2, HO.out.1, HR.out.row.congr (fun j hj => by show Value.int .i64 (if j < n then _ else 0) = Value.int .i64 _; rw [if_pos hj]), HR.out.below, HR.out.ge.1⟩

set_option maxHeartbeats 16000000 in
set_option maxRecDepth 100000 in
theorem edge60 {w : World} {n cap : Nat} {A : Option Addr} {es : List REd} (root : Int) (hA : EdsIn w A es) (hok : ∀ e ∈ es, e.ok n) (hn : n ≤ 30) (hm : es.length ≤ 60) :
    Calls Try.prog 60 #[.agg #[.int .i64 n, .slice A es.length cap], .int .i64 root] w (RPost w (es.map REd.plain) n es.length root (fEdge (es.map REd.plain))) := by
  have HA := Lib.hid hA
  have HOK := Lib.hid hok
  have EOK : Hid (∀ e ∈ es.map REd.plain, K.OkE n e) := edges_ok hok
  obtain ⟨W1, hW1⟩ : ∃ W, W = w.alloc (.cells #[.int .i64 n, .slice A es.length cap] 48) := ⟨_, rfl⟩
  obtain ⟨hb, hhb⟩ : ∃ b, b = w.heap.size := ⟨_, rfl⟩
  have B1 : Hid (Below w.heap.size w W1) := by rw [hW1]; exact (Below.refl _ _).alloc (Nat.le_refl _) _
  have H1 : Hid (HBZ W1 hb n es.length cap A) := by show W1.heap[hb]? = _; rw [hW1, hhb]; exact heap_alloc_new w _
  have HW1 := Lib.hid (And.intro hW1 hhb)
  have C84 : Hid (∀ W : World, Below W1.heap.size W1 W → Calls Try.prog 84 #[.agg #[.int .i64 n, .slice A es.length cap]] W (InPost W n (es.map REd.plain))) := fun W hW => inside84 (cap := cap) (HA.out.below (B1.out.trans (hW.mono B1.out.size))) HOK.out (by omega) (by omega)
  clear hA hok hW1 hhb
  go_enter Try.func60, Try.ntmps60
  go_wp2_with fail
  rw [← HW1.out.1, ← HW1.out.2]
  have C57 : Hid (∀ W : World, Below W1.heap.size W1 W → Calls Try.prog 57 #[.agg #[.int .i64 n, .slice A es.length cap], .int .i64 root] W (RPost W (es.map REd.plain) n n root fOut)) := fun W hW => out57 root (HA.out.below (B1.out.trans (hW.mono B1.out.size))) HOK.out hn hm
  refine r60_r1 (fun _ _ _ _ _ h => h) (box_range (L := [.int .i64 n, .slice A es.length cap]) H1.out 0 _ (fun j v h => by rw [Nat.zero_add]; exact h)) C84 C57 ?_
  intro bi bo v f v' f' out w8 hs ⟨b8, hs', ho, hro, hri⟩ t12 t13 t14 t15 t16
  have B8 : Hid (Below w.heap.size w w8) := B1.out.trans (b8.mono B1.out.size)
  have H8 := Lib.hid (H1.out.bel b8)
  have HO : Hid (OutIs (es.map REd.plain) n (fun i => (v i).1) root out ∧ K.Sol (es.map REd.plain) n v f) := ⟨ho.congr EOK.out (fun i hi => by show (v' i).1 = (v i).1; rw [(hs'.unique EOK.out hs i hi).1]), hs⟩
  have HIN := Lib.hid (sol_ok hs)
  obtain ⟨W4, hW4⟩ : ∃ W, W = w8.alloc (oI es.length) := ⟨_, rfl⟩
  obtain ⟨bl, hbl⟩ : ∃ b, b = w8.heap.size := ⟨_, rfl⟩
  have B4 : Below w8.heap.size w8 W4 := by rw [hW4]; exact (Below.refl _ _).alloc (Nat.le_refl _) _
  have HI : Hid (TSt w W4 hb bi bo bl n cap es.length A es.length (fun i => (v i).1) out (fun j => if j < 0 then fEdge (es.map REd.plain) (fun i => (v i).1) out j else 0)) :=
    ⟨H8.out.bel B4, row_below hri B4, row_below hro B4, by rw [hW4, hbl]; exact (row_of (heap_alloc_new w8 (oI es.length))).congr (fun j _ => by show _ = Value.int .i64 (if j < 0 then _ else 0); rw [if_neg (Nat.not_lt_zero _)]), B8.out.trans (B4.mono B8.out.size), by rw [hbl]; exact ⟨B8.out.size, row_ne hri (Nat.le_refl _), row_ne hro (Nat.le_refl _)⟩⟩
  have hmk := makeI es.length (by omega)
  have HW4 := Lib.hid (And.intro hW4 hbl)
  obtain ⟨y0, y1⟩ := H8.out.c
  have y2 : (w8.alloc (oI es.length)).cell? ⟨hb, 1, none⟩ = some (.slice A es.length cap) := by rw [← hW4]; exact HI.out.hdr.c.2
  clear hs b8 hs' ho hro hri hW4 hbl B4 C57 C84 H1 B1 HW1 B8 H8
  go_wp2_with fail
  rw [← HW4.out.1, ← HW4.out.2]
  clear hmk y0 y1 y2 HW4
  go_loopg [8] es.length (fun gk si wr => ∃ k : Nat, si = .int .i64 k ∧ k ≤ es.length ∧ es.length - k ≤ gk ∧ Hid (TSt w wr hb bi bo bl n cap es.length A es.length (fun i => (v i).1) out (fun j => if j < k then fEdge (es.map REd.plain) (fun i => (v i).1) out j else 0)))
  case atStart => exact ⟨0, rfl, by omega, by omega, HI.out⟩
  case round =>
    clear HI
    obtain ⟨k, rfl, hi, hk, HR⟩ := hrel
    obtain ⟨y0, y1⟩ := HR.out.hdr.c
    by_cases hlt : k < es.length
    · skip
      as_aux_lemma =>
        have hlz : (k : Int) < (es.length : Int) := by omega
        obtain ⟨e, he⟩ : ∃ e, es[k]? = some e := ⟨_, List.getElem?_eq_getElem hlt⟩
        have hok := HOK.out e (List.mem_of_getElem? he)
        have HEK : Hid ((es.map REd.plain)[k]? = some e.plain) := by show _ = _; rw [List.getElem?_map, he]; rfl
        have HTI := Lib.hid (HA.out.tails e (List.mem_of_getElem? he))
        obtain ⟨eb0, eo, rfl, z0, z1, z2, z3, z4⟩ := HA.out.c HR.out.below he
        obtain ⟨hn', hhn⟩ : ∃ x, e.head.toNat = x := ⟨_, rfl⟩
        have hhe : e.head = (hn' : Int) := by rw [← hhn, Int.toNat_of_nonneg hok.1]
        have hhl : hn' < n := by have := hok.2.1; omega
        have hph : e.plain.head = hn' := hhn
        have htl : e.tails.length ≤ 4 := hok.2.2.2.2.2
        obtain ⟨d, hd⟩ : ∃ x, out hn' = x := ⟨_, rfl⟩
        have hdo := outIs_ok HO.out.1 hn' hhl
        rw [hd] at hdo
        have hcost : 0 ≤ e.cost ∧ e.cost ≤ 1099511627776 := ⟨hok.2.2.2.1, hok.2.2.2.2.1⟩
        obtain ⟨c0, hc0⟩ : ∃ c, min (d + e.cost) 1099511627776 = c := ⟨_, rfl⟩
        have C85 : Hid (∀ W : World, Calls Try.prog 85 #[.int .i64 d, .int .i64 e.cost] W fun r w' => r = .returned (.int .i64 c0) ∧ Below W.heap.size W w') := plus85 hdo hcost hc0
        obtain ⟨W2, hW2⟩ : ∃ W, W = wr.alloc (.cells #[.int .i64 e.head, .slice e.A e.tails.length e.cap, .int .i64 e.cost, .int .i64 e.l0, .int .i64 e.l1] 60) := ⟨_, rfl⟩
        obtain ⟨xb, hxb⟩ : ∃ b, b = wr.heap.size := ⟨_, rfl⟩
        have B2 : Below wr.heap.size wr W2 := by rw [hW2]; exact (Below.refl _ _).alloc (Nat.le_refl _) _
        have X2 : Hid (EBX W2 xb e) := by show W2.heap[xb]? = _; rw [hW2, hxb]; exact heap_alloc_new wr _
        have T2 := Lib.hid (HR.out.bel B2)
        have X0 : Hid (W2.cell? ⟨xb, 0, none⟩ = some (.int .i64 hn')) := by show _ = _; rw [← hhe]; exact X2.out.c.1
        have O0 : Hid (W2.cell? ⟨bo, hn', none⟩ = some (.int .i64 d)) := by show _ = _; rw [← hd]; exact T2.out.out.cell hhl
        have HD := Lib.hid (And.intro hd (And.intro hdo (And.intro hcost hc0)))
        have HE := Lib.hid (And.intro hok (And.intro hhe hph))
        have HW2 := Lib.hid (And.intro hW2 hxb)
        clear HR he hok hhn hhe hph hd hdo hcost hc0 hW2 hxb B2
        go_wp2_with fail
        rw [← HW2.out.1, ← HW2.out.2]
        have hhz : (hn' : Int) < (n : Int) := by omega
        refine r60_r7 (fun _ _ _ _ _ h => h) hhz X0.out O0.out X2.out.c.2.2.1 C85 ?_
        intro w9 b9 t33 t34 t35 t36 t37 t38 t39 t40
        have HI : Hid ((TSt w w9 hb bi bo bl n cap es.length (some ⟨eb0, eo, none⟩) es.length (fun i => (v i).1) out (fun j => if j < k then fEdge (es.map REd.plain) (fun i => (v i).1) out j else 0) ∧ EBX w9 xb e) ∧ min (d + e.cost + K.oth (fun i => (v i).1) (e.plain.tails.take 0) 0 (-1)) 1099511627776 = c0) := ⟨⟨T2.out.bel b9, X2.out.bel b9⟩, by show min (d + e.cost + 0) _ = _; rw [Int.add_zero]; exact HD.out.2.2.2⟩
        clear b9 C85 X0 O0 X2 T2 HW2 y0 y1 z0 z1 z2 z3 z4
        go_wp2_with fail
        go_loopg [10, 11] e.tails.length (fun gj s10 s11 wr => ∃ (c : Int) (j : Nat), s10 = .int .i64 c ∧ s11 = .int .i64 j ∧ j ≤ e.tails.length ∧ e.tails.length - j ≤ gj ∧ Hid ((TSt w wr hb bi bo bl n cap es.length (some ⟨eb0, eo, none⟩) es.length (fun i => (v i).1) out (fun j => if j < k then fEdge (es.map REd.plain) (fun i => (v i).1) out j else 0) ∧ EBX wr xb e) ∧ min (d + e.cost + K.oth (fun i => (v i).1) (e.plain.tails.take j) 0 (-1)) 1099511627776 = c))
        case atStart => exact ⟨c0, 0, rfl, rfl, by omega, by omega, HI.out⟩
        case round =>
          clear HI
          obtain ⟨c, j, rfl, rfl, hj, hkj, HR⟩ := hrel
          have x1 := HR.out.1.2.c.2.1
          by_cases hlt4 : j < e.tails.length
          · have hlz4 : (j : Int) < (e.tails.length : Int) := by omega
            obtain ⟨u, hu⟩ : ∃ t, e.tails[j]? = some t := ⟨_, List.getElem?_eq_getElem hlt4⟩
            have hu2 := HE.out.1.2.2.1 u (List.mem_of_getElem? hu)
            obtain ⟨un, rfl⟩ : ∃ un : Nat, u = un := ⟨u.toNat, (Int.toNat_of_nonneg hu2.1).symm⟩
            have hun : un < n := by omega
            have hpu : e.plain.tails[j]? = some un := by show (e.tails.map Int.toNat)[j]? = _; rw [List.getElem?_map, hu]; rfl
            have hst := K.oth_take (inn := fun i => (v i).1) (-1) hpu
            rw [if_neg (by omega)] at hst
            have hcc := HR.out.2
            have hnn : 0 ≤ K.oth (fun i => (v i).1) (e.plain.tails.take j) 0 (-1) := oth_nn' HIN.out HE.out.1 (-1) j
            have hd2 := HD.out.2
            have htl3 : j ≤ 3 := by omega
            obtain ⟨tb, tof, htA, ct⟩ := HTI.out.c HR.out.1.1.below hu
            obtain ⟨y, hy⟩ : ∃ y, (v un).1 = y := ⟨_, rfl⟩
            have hyo : 0 ≤ (v un).1 ∧ (v un).1 ≤ 1099511627776 := HIN.out un hun
            rw [hy] at hyo
            have hst : K.oth (fun i => (v i).1) (e.plain.tails.take (j + 1)) 0 (-1) = K.oth (fun i => (v i).1) (e.plain.tails.take j) 0 (-1) + y := by rw [hst, ← hy]
            obtain ⟨c', hc'⟩ : ∃ x, min (c + y) 1099511627776 = x := ⟨_, rfl⟩
            have CC := Lib.hid (plus85 (a := c) (b := y) (by rw [← hcc]; omega) hyo hc' wr)
            have N9 : Hid ((TSt w wr hb bi bo bl n cap es.length (some ⟨eb0, eo, none⟩) es.length (fun i => (v i).1) out (fun j => if j < k then fEdge (es.map REd.plain) (fun i => (v i).1) out j else 0) ∧ EBX wr xb e) ∧ min (d + e.cost + K.oth (fun i => (v i).1) (e.plain.tails.take (j + 1)) 0 (-1)) 1099511627776 = c') := ⟨HR.out.1, by rw [hst, ← hc', ← hcc]; omega⟩
            have x2 : wr.cell? ⟨bi, un, none⟩ = some (.int .i64 y) := by rw [← hy]; exact HR.out.1.1.inn.cell hun
            have hnz : (un : Int) < (n : Int) := by omega
            rw [htA] at x1
            clear HR hu hu2 hpu hst hcc hnn hd2 htA hy hyo hc'
            go_wp2_with fail
            with_reducible refine CC.out.mono ?_
            rintro r w9 ⟨rfl, b9⟩
            have N10 := Lib.hid (And.intro (And.intro (N9.out.1.1.bel b9) (N9.out.1.2.bel b9)) N9.out.2)
            clear b9 CC N9 x1 x2
            go_wp2_with fail
            go_roundg (e.tails.length - (j + 1))
            case measure => omega
            case rel => exact ⟨c', j + 1, rfl, by go_num, by omega, by omega, N10.out⟩
          · have hlz4 : ¬ (j : Int) < (e.tails.length : Int) := by omega
            obtain rfl : e.tails.length = j := by omega
            have hc := HR.out.2
            rw [show e.plain.tails.take e.tails.length = e.plain.tails from List.take_of_length_le (by show (e.tails.map Int.toNat).length ≤ _; rw [List.length_map]; exact Nat.le_refl _)] at hc
            obtain rfl : fEdge (es.map REd.plain) (fun i => (v i).1) out k = c := by
              rw [← hc]
              unfold fEdge
              rw [HEK.out]
              show min (out e.plain.head + e.plain.cost + K.oth (fun i => (v i).1) e.plain.tails 0 (-1)) 1099511627776 = _
              rw [HE.out.2.2, HD.out.1]
              rfl
            have l0 := HR.out.1.1.old hlt
            have l1 : wr.frozen? ⟨bl, k, none⟩ = false := HR.out.1.1.row.frozen k
            have N9 := Lib.hid HR.out.1.1.next
            have hlz : (k : Int) < (es.length : Int) := by omega
            clear hc
            go_wp2_with fail
            go_roundg (es.length - (k + 1))
            case measure => omega
            case rel => exact ⟨k + 1, by go_num, by omega, by omega, N9.out⟩

    · have hlz : ¬ (k : Int) < (es.length : Int) := by omega
      obtain rfl : es.length = k := by omega
      go_wp2_with fail
      go_ret
      exact ⟨bl, v, f, out, rfl, HO.out.2, HO.out.1, HR.out.row.congr (fun j hj => by show Value.int .i64 (if j < es.length then _ else 0) = Value.int .i64 _; rw [if_pos hj]), HR.out.below, HR.out.ge.1⟩
end Go.Proofs.Ytepfbhigeghjjaa.Q
