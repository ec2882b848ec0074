/- Combine, of the program and of the reference. -/
import Derived.Test.YtepfbhigeghjjaaKM
namespace Go.Proofs.Ytepfbhigeghjjaa.Q
open Go.RowKit Go.Proofs.YtepfbhigeghjjaaW.PrintLast
set_option linter.unusedVariables false
set_option linter.unusedSimpArgs false
theorem fold_take {l : List K.V} {i : Nat} {y : K.V} (hy : l[i]? = some y) (a : K.V) : (l.take (i + 1)).foldl K.stepV a = K.stepV ((l.take i).foldl K.stepV a) y := by
  rw [List.take_add_one, hy]
  simp
theorem part_ok {cost : Int} {l : List K.V} (h0 : 0 ≤ cost) (h1 : cost ≤ K.INF) (hl : ∀ x ∈ l, K.OkV x) (i : Nat) : K.OkV ((l.take i).foldl K.stepV (cost, 1)) :=
  (K.fold_ok (l.take i) (cost, 1) h0 h1 (Int.le_refl 1) (show (1 : Int) ≤ K.INF by decide) (fun x hx => hl x (List.mem_of_mem_take hx))).1
theorem res_c {P : Program} {fn : Func} {p : Tmp} {ty : TypeId} {d : TypeDesc} (h : fn.results = #[.cell p ty]) (tmps : Array Value) (w : World) (b : Nat) (cs : List Value) (hp : tmps.getD p undef = .pointer (some ⟨b, 0, none⟩)) (hc : w.rangeAt b 0 cs)
    (hu : P.underlying ty = some d) (hd : d.isRow = true) (hi : (P.info? ty).map (·.size) = some cs.length) :
    (results fn tmps).run P w = .ok (.agg cs.toArray) w := by
  have hl := run_loadVar_mid (P := P) w b 0 ty cs d hc hu hd hi
  have hp' : tmps[p]?.getD undef = .pointer (some ⟨b, 0, none⟩) := by simpa using hp
  simp [results, h, hp', asAddr, hl, Result.andThen]
theorem step_eq {c a s b c' s' : Int} (h1 : min (c + a) 1099511627776 = c') (h2 : min (s + b) 1099511627776 = s') : K.stepV (c, s) (a, b) = (c', s') := Prod.ext h1 h2
structure CInv (w wr : World) (ob rb : Nat) (cost : Int) (l : List K.V) (i : Nat) (c s : Int) : Prop where
  eq : (l.take i).foldl K.stepV (cost, 1) = (c, s)
  out : wr.heap[ob]? = some (.cells #[.int .i64 c, .int .i64 s] 54 (0, 0))
  res : wr.heap[rb]? = some (.cells #[.int .i64 0, .int .i64 0] 54 (0, 0))
  below : Below w.heap.size w wr
set_option maxHeartbeats 2000000 in
set_option maxRecDepth 100000 in
theorem combine47 {w : World} {A : Option Addr} {cap : Nat} (cost : Int) (l : List K.V) (hA : ValsIn w A l) (h0 : 0 ≤ cost) (h1 : cost ≤ K.INF) (hl : ∀ x ∈ l, K.OkV x) (hlen : l.length ≤ 1000000000) :
    Calls Try.prog 47 #[.int .i64 cost, .slice A l.length cap] w fun r w' => r = .returned (.agg (encV (K.combV cost l)).toArray) ∧ Below w.heap.size w w' := by
  have HA := Lib.hid hA
  have HP := Lib.hid (part_ok h0 h1 hl)
  have HL := Lib.hid hl
  clear hA hl
  have hmin : cost ≤ 1099511627776 := h1
  clear h1
  obtain ⟨W1, hW1⟩ : ∃ W, W = (w.alloc (.cells #[.int .i64 0, .int .i64 0] 54)).alloc (.cells #[.int .i64 cost, .int .i64 1] 54) := ⟨_, rfl⟩
  obtain ⟨rb, hrb⟩ : ∃ b, b = w.heap.size := ⟨_, rfl⟩
  obtain ⟨ob, hob⟩ : ∃ b, b = w.heap.size + 1 := ⟨_, rfl⟩
  have T := two_alloc w (.cells #[.int .i64 0, .int .i64 0] 54) (.cells #[.int .i64 cost, .int .i64 1] 54)
  rw [← hW1, ← hob, ← hrb] at T
  have HI : Hid (CInv w W1 ob rb cost l 0 cost 1) := ⟨rfl, T.2, T.1, by rw [hW1]; exact ((Below.refl _ _).alloc (Nat.le_refl _) _).alloc (by simp) _⟩
  have HW := Lib.hid (And.intro hW1 (And.intro hrb hob))
  have HN : Hid (ob ≠ rb ∧ w.heap.size ≤ ob ∧ w.heap.size ≤ rb) := ⟨by omega, by omega, by omega⟩
  clear hW1 hrb hob T
  go_enter Try.func47, Try.ntmps47
  go_wp2_with fail
  rw [← HW.out.1, ← HW.out.2.2, ← HW.out.2.1]
  go_loopg [13] l.length (fun k si wr => ∃ (i : Nat) (c s : Int), si = .int .i64 i ∧ i ≤ l.length ∧ l.length - i ≤ k ∧ Hid (CInv w wr ob rb cost l i c s))
  case atStart => exact ⟨0, cost, 1, rfl, by omega, by omega, HI⟩
  case round =>
    clear HI
    obtain ⟨i, c, s, rfl, hi, hk, HR⟩ := hrel
    have hp := HP.out i
    rw [HR.out.eq] at hp
    obtain ⟨q1, q2, q3, q4⟩ := hp
    have q1 : 0 ≤ c := q1
    have q2 : c ≤ 1099511627776 := q2
    have q3 : 0 ≤ s := q3
    have q4 : s ≤ 1099511627776 := q4
    by_cases hlt : i < l.length
    · obtain ⟨y, hy⟩ : ∃ y, l[i]? = some y := ⟨_, List.getElem?_eq_getElem hlt⟩
      have hyo := HL.out y (List.mem_of_getElem? hy)
      obtain ⟨b, o, rfl, hr⟩ := HA.out i y hy
      obtain ⟨a1, a2⟩ := y
      obtain ⟨p1, p2, p3, p4⟩ := hyo
      have p1 : 0 ≤ a1 := p1
      have p2 : a1 ≤ 1099511627776 := p2
      have p3 : 0 ≤ a2 := p3
      have p4 : a2 ≤ 1099511627776 := p4
      have y1 : wr.cell? ⟨b, o + i * 2, none⟩ = some (.int .i64 a1) := by have := hr 0 _ rfl; exact (HR.out.below.cell (World.block_lt_of_cell? w _ this)).trans this
      have y2 : wr.cell? ⟨b, o + i * 2 + 1, none⟩ = some (.int .i64 a2) := by have := hr 1 _ rfl; exact (HR.out.below.cell (World.block_lt_of_cell? w _ this)).trans this
      have hlz : (i : Int) < (l.length : Int) := by omega
      have O2 : Hid ((wr.alloc (.cells #[.int .i64 a1, .int .i64 a2] 54)).heap[ob]? = some (.cells #[.int .i64 c, .int .i64 s] 54 (0, 0))) := (eff_alloc wr _).heap HR.out.out (fun h => h)
      have x1 : (wr.alloc (.cells #[.int .i64 a1, .int .i64 a2] 54)).cell? ⟨ob, 0, none⟩ = some (.int .i64 c) := by simp only [World.cell?, O2.out]; rfl
      have x2 : (wr.alloc (.cells #[.int .i64 a1, .int .i64 a2] 54)).cell? ⟨ob, 1, none⟩ = some (.int .i64 s) := by simp only [World.cell?, O2.out]; rfl
      have f1 : (wr.alloc (.cells #[.int .i64 a1, .int .i64 a2] 54)).frozen? ⟨ob, 0, none⟩ = false := frozen_blk O2.out 0
      have f2 : (wr.alloc (.cells #[.int .i64 a1, .int .i64 a2] 54)).frozen? ⟨ob, 1, none⟩ = false := frozen_blk O2.out 1
      have z0 : ¬ ob = wr.heap.size := fun h => by have := (Array.getElem?_eq_some_iff.1 HR.out.out).1; omega
      have hw1 : IntKind.i64.wrap (c + a1) = c + a1 := IntWalk.i64_in _ (by omega)
      have hw2 : IntKind.i64.wrap (s + a2) = s + a2 := IntWalk.i64_in _ (by omega)
      have HY := Lib.hid hy
      clear hy hr
      by_cases hm1 : c + a1 ≤ 1099511627776 <;> by_cases hm2 : s + a2 ≤ 1099511627776
      all_goals
        go_wp2_with fail
        go_roundg (l.length - (i + 1))
        case measure => omega
        case rel =>
          refine ⟨i + 1, _, _, by go_num, by omega, by omega, ⟨?_, set_cell (set_cell O2.out 0 _) 1 _, ?_, ?_⟩⟩
          · rw [fold_take HY.out, HR.out.eq]
            exact step_eq (by omega) (by omega)
          · exact (eff_setCell _ ob 1 _).heap ((eff_setCell _ ob 0 _).heap ((eff_alloc wr _).heap HR.out.res (fun h => h)) (fun h => HN.out.1 h.symm)) (fun h => HN.out.1 h.symm)
          · exact (((HR.out.below.alloc HR.out.below.size _).setCell (by exact HN.out.2.1) _).setCell (by exact HN.out.2.1) _)
    · have hlz : ¬ (i : Int) < (l.length : Int) := by omega
      obtain rfl : i = l.length := by omega
      have he := HR.out.eq
      rw [List.take_length] at he
      have x1 : wr.cell? ⟨ob, 0, none⟩ = some (.int .i64 c) := by simp only [World.cell?, HR.out.out]; rfl
      have x2 : wr.cell? ⟨ob, 1, none⟩ = some (.int .i64 s) := by simp only [World.cell?, HR.out.out]; rfl
      have r1 : wr.cell? ⟨rb, 0, none⟩ = some (.int .i64 0) := by simp only [World.cell?, HR.out.res]; rfl
      have r2 : wr.cell? ⟨rb, 1, none⟩ = some (.int .i64 0) := by simp only [World.cell?, HR.out.res]; rfl
      have f1 : wr.frozen? ⟨rb, 0, none⟩ = false := frozen_blk HR.out.res 0
      have f2 : wr.frozen? ⟨rb, 1, none⟩ = false := frozen_blk HR.out.res 1
      have HEQ := Lib.hid he
      clear he
      by_cases hc : c = 1099511627776
      · have hcb : (c == 1099511627776) = true := beq_iff_eq.2 hc
        have hres : Hid (K.combV cost l = (1099511627776, 0)) := by
          show _ = _
          unfold K.combV K.endV
          rw [HEQ.out, if_pos (by show K.INF ≤ c; rw [hc]; exact Int.le_refl _)]
        clear hc
        go_wp2_with fail
        rw [hres.out]
        refine bodyPost_ret (res_c rfl _ _ rb [.int .i64 1099511627776, .int .i64 0] (by rfl) ?_ Try.underlying54 rfl (by kernel_rfl)) rfl ?_
        · refine box_range (L := [.int .i64 1099511627776, .int .i64 0]) (t := 54) ?_ 0 _ (fun j v h => by rw [Nat.zero_add]; exact h)
          exact set_cell (set_cell HR.out.res 0 _) 1 _
        · exact ⟨rfl, (HR.out.below.setCell (p := ⟨rb, 0, none⟩) HN.out.2.2 _).setCell (p := ⟨rb, 1, none⟩) HN.out.2.2 _⟩
      · have hcb : (c == 1099511627776) = false := beq_eq_false_iff_ne.2 hc
        have hres : Hid (K.combV cost l = (c, s)) := by
          show _ = _
          unfold K.combV K.endV
          rw [HEQ.out, if_neg (by show ¬ K.INF ≤ c; intro h; exact hc (Int.le_antisymm q2 h))]
        clear hc
        go_wp2_with fail
        rw [hres.out]
        refine bodyPost_ret (res_c rfl _ _ rb [.int .i64 c, .int .i64 s] (by rfl) ?_ Try.underlying54 rfl (by kernel_rfl)) rfl ?_
        · refine box_range (L := [.int .i64 c, .int .i64 s]) (t := 54) ?_ 0 _ (fun j v h => by rw [Nat.zero_add]; exact h)
          exact set_cell (set_cell HR.out.res 0 _) 1 _
        · exact ⟨rfl, (HR.out.below.setCell (p := ⟨rb, 0, none⟩) HN.out.2.2 _).setCell (p := ⟨rb, 1, none⟩) HN.out.2.2 _⟩
end Go.Proofs.Ytepfbhigeghjjaa.Q
