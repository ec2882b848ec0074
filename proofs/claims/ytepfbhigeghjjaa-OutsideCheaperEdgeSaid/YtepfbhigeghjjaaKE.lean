/- The solver's combine. -/
import Derived.Test.YtepfbhigeghjjaaKC
namespace Go.Proofs.Ytepfbhigeghjjaa.Q
open Go.RowKit Go.Proofs.YtepfbhigeghjjaaW.PrintLast
set_option linter.unusedVariables false
set_option linter.unusedSimpArgs false
theorem make54 (n : Nat) (hn : n ≤ 1000000000) (w : World) : (Instr.makeSlice 62 (.int .i64 (n : Int)) (.int .i64 (n : Int))).run Try.prog w = .ok (.slice (some ⟨w.heap.size, 0, none⟩) n n) (w.alloc (.cells (madeCells #[.int .i64 0, .int .i64 0] (n * 2)) 54)) := by
  obtain ⟨i0, hi0, hz0, hz1, hz2⟩ := info_parts (show (Try.prog.info? 54).map (fun i => (i.zero, i.size, i.bytes)) = some (some (.agg #[.int .i64 0, .int .i64 0]), 2, 16) from by kernel_rfl)
  have hr := run_make (P := Try.prog) w 62 54 i0 (.agg #[.int .i64 0, .int .i64 0]) Try.underlying62 hi0 hz0 .i64 .i64 n n (by omega) (Int.le_refl _) (by rw [hz2]; omega) (by omega)
  simp only [Int.toNat_natCast, hz1] at hr
  exact hr
theorem valsAt_made (W : World) (n : Nat) : ValsAt (W.alloc (.cells (madeCells #[.int .i64 0, .int .i64 0] (n * 2)) 54)) W.heap.size n (fun _ => (0, 0)) := by
  refine ⟨⟨_, heap_alloc_new W _, size_madeCells _ _⟩, fun i hi j v hv => ?_⟩
  have hc : ∀ m, m < n * 2 → (madeCells #[Value.int .i64 0, Value.int .i64 0] (n * 2))[m]? = some (.int .i64 0) := by
    intro m hm
    simp only [madeCells, Array.getElem?_map, List.getElem?_toArray]
    rw [Array.getElem?_range, if_pos hm]
    have : m % 2 = 0 ∨ m % 2 = 1 := by omega
    rcases this with h | h <;> simp [h]
  have hj : j < 2 := (List.getElem?_eq_some_iff.1 hv).1
  have hvv : v = .int .i64 0 := by
    have : j = 0 ∨ j = 1 := by omega
    rcases this with rfl | rfl <;> (cases hv; rfl)
  subst hvv
  have h1 := heap_alloc_new W (.cells (madeCells #[Value.int .i64 0, Value.int .i64 0] (n * 2)) 54)
  simp only [World.cell?, h1]
  exact hc _ (by omega)
/-- The solver's own block. -/
def SolvB (W : World) (s n : Nat) (A : Option Addr) (m ecap bv bs bo bu g : Nat) : Prop :=
  W.heap[s]? = some (.cells #[.int .i64 n, .slice A m ecap, .slice (some ⟨bv, 0, none⟩) n n, .slice (some ⟨bs, 0, none⟩) n n, .slice (some ⟨bo, 0, none⟩) m m, .slice (some ⟨bu, 0, none⟩) n n, .pointer (some ⟨g, 0, none⟩)] 107 (0, 0))
def tailV (v : Nat → K.V) (tails : List Int) (i j : Nat) : K.V := if j < i then v (tails.getD j 0).toNat else (0, 0)
structure EInv (w wr : World) (eb rb lb : Nat) (v : Nat → K.V) (E : List Value) (tails : List Int) (i : Nat) : Prop where
  lst : ValsAt wr lb tails.length (tailV v tails i)
  ebx : wr.heap[eb]? = some (.cells E.toArray 60 (0, 0))
  res : wr.heap[rb]? = some (.cells #[.int .i64 0, .int .i64 0] 54 (0, 0))
  below : Below w.heap.size w wr
set_option maxHeartbeats 2000000 in
set_option maxRecDepth 100000 in
theorem combine82 {w : World} {s n m ecap bv bs bo bu g : Nat} {A : Option Addr} {v : Nat → K.V} (hs : SolvB w s n A m ecap bv bs bo bu g) (hv : ValsAt w bv n v) (e : REd) (he : IntsIn w e.A e.tails) (hok : e.ok n) (hvo : ∀ i, i < n → K.OkV (v i)) :
    Calls Try.prog 82 #[.pointer (some ⟨s, 0, none⟩), .agg #[.int .i64 e.head, .slice e.A e.tails.length e.cap, .int .i64 e.cost, .int .i64 e.l0, .int .i64 e.l1]] w fun r w' => r = .returned (.agg (encV (K.comb e.plain v)).toArray) ∧ Below w.heap.size w w' := by
  obtain ⟨eA, ec, head, tails, cost, l0, l1⟩ := e
  obtain ⟨_, _, ht, hc0, hc1, hl4⟩ := hok
  have hl4 : tails.length ≤ 4 := hl4
  have HT : Hid (∀ t ∈ tails, 0 ≤ t ∧ t < n) := ht
  have HC : Hid (0 ≤ cost ∧ cost ≤ K.INF) := ⟨hc0, hc1⟩
  have HE : Hid (IntsIn w eA tails) := he
  have HS := Lib.hid hs
  have HV := Lib.hid hv
  have HO := Lib.hid hvo
  have hmk := make54 tails.length (by omega)
  obtain ⟨W1, hW1⟩ : ∃ W, W = (w.alloc (.cells #[.int .i64 head, .slice eA tails.length ec, .int .i64 cost, .int .i64 l0, .int .i64 l1] 60)).alloc (.cells #[.int .i64 0, .int .i64 0] 54) := ⟨_, rfl⟩
  obtain ⟨W2, hW2⟩ : ∃ W, W = W1.alloc (.cells (madeCells #[.int .i64 0, .int .i64 0] (tails.length * 2)) 54) := ⟨_, rfl⟩
  obtain ⟨eb, heb⟩ : ∃ b, b = w.heap.size := ⟨_, rfl⟩
  obtain ⟨rb, hrb⟩ : ∃ b, b = w.heap.size + 1 := ⟨_, rfl⟩
  obtain ⟨lb, hlb⟩ : ∃ b, b = w.heap.size + 1 + 1 := ⟨_, rfl⟩
  have hz1 : W1.heap.size = lb := by rw [hW1, hlb]; simp
  have T := two_alloc w (.cells #[.int .i64 head, .slice eA tails.length ec, .int .i64 cost, .int .i64 l0, .int .i64 l1] 60) (.cells #[.int .i64 0, .int .i64 0] 54)
  rw [← hW1, ← hrb, ← heb] at T
  have hv2 := valsAt_made W1 tails.length
  rw [← hW2, hz1] at hv2
  have E12 := eff_alloc W1 (.cells (madeCells #[.int .i64 0, .int .i64 0] (tails.length * 2)) 54)
  rw [← hW2] at E12
  have HI : Hid (EInv w W2 eb rb lb v [.int .i64 head, .slice eA tails.length ec, .int .i64 cost, .int .i64 l0, .int .i64 l1] tails 0) :=
    ⟨hv2.congr (fun i _ => by unfold tailV; rw [if_neg (by omega)]), E12.heap T.1 (fun h => h), E12.heap T.2 (fun h => h), by rw [hW2, hW1]; exact (((Below.refl _ _).alloc (Nat.le_refl _) _).alloc (by simp) _).alloc (by simp; omega) _⟩
  have HN : Hid (eb = w.heap.size ∧ rb = w.heap.size + 1 ∧ lb = w.heap.size + 1 + 1) := ⟨heb, hrb, hlb⟩
  have HW := Lib.hid (And.intro hW1 hW2)
  clear ht hc0 hc1 he hs hv hvo hW1 hW2 heb hrb hlb T hv2 E12 hz1
  go_enter Try.func82, Try.ntmps82
  go_wp2_with fail
  rw [← HW.out.1, ← HW.out.2, ← HN.out.2.2, ← HN.out.2.1, ← HN.out.1]
  go_loopg [15] tails.length (fun k si wr => ∃ i : Nat, si = .int .i64 i ∧ i ≤ tails.length ∧ tails.length - i ≤ k ∧ Hid (EInv w wr eb rb lb v [.int .i64 head, .slice eA tails.length ec, .int .i64 cost, .int .i64 l0, .int .i64 l1] tails i))
  case atStart => exact ⟨0, rfl, by omega, by omega, HI⟩
  case round =>
    clear HI
    obtain ⟨i, rfl, hi, hk, HR⟩ := hrel
    by_cases hlt : i < tails.length
    · obtain ⟨t, ht⟩ : ∃ t, tails[i]? = some t := ⟨_, List.getElem?_eq_getElem hlt⟩
      obtain ⟨b, o, rfl, hr⟩ := HE.out i t ht
      obtain ⟨ht0, ht1⟩ := HT.out t (List.mem_of_getElem? ht)
      obtain ⟨tn, rfl⟩ : ∃ tn : Nat, t = tn := ⟨t.toNat, (Int.toNat_of_nonneg ht0).symm⟩
      have htn : tn < n := by omega
      obtain ⟨y1, hy1⟩ : ∃ x, (v tn).1 = x := ⟨_, rfl⟩
      obtain ⟨y2, hy2⟩ : ∃ x, (v tn).2 = x := ⟨_, rfl⟩
      have bel {a : Addr} {u : Value} (h : w.cell? a = some u) : wr.cell? a = some u := (HR.out.below.cell (World.block_lt_of_cell? w _ h)).trans h
      have y0 : wr.cell? ⟨b, o + i, none⟩ = some (.int .i64 tn) := bel hr
      have s2 : wr.cell? ⟨s, 2, none⟩ = some (.slice (some ⟨bv, 0, none⟩) n n) := bel (by have := HS.out; unfold SolvB at this; simp [World.cell?, this])
      have z1 : wr.cell? ⟨bv, tn * 2, none⟩ = some (.int .i64 y1) := bel (by rw [← hy1]; exact HV.out.at_ tn htn 0 _ rfl)
      have z2 : wr.cell? ⟨bv, tn * 2 + 1, none⟩ = some (.int .i64 y2) := bel (by rw [← hy2]; exact HV.out.at_ tn htn 1 _ rfl)
      obtain ⟨o1, ho1⟩ : ∃ x, (tailV v tails i i).1 = x := ⟨_, rfl⟩
      obtain ⟨o2, ho2⟩ : ∃ x, (tailV v tails i i).2 = x := ⟨_, rfl⟩
      have x1 : wr.cell? ⟨lb, i * 2, none⟩ = some (.int .i64 o1) := by rw [← ho1]; exact HR.out.lst.at_ i hlt 0 _ rfl
      have x2 : wr.cell? ⟨lb, i * 2 + 1, none⟩ = some (.int .i64 o2) := by rw [← ho2]; exact HR.out.lst.at_ i hlt 1 _ rfl
      have f1 : wr.frozen? ⟨lb, i * 2, none⟩ = false := HR.out.lst.frozen _
      have f2 : wr.frozen? ⟨lb, i * 2 + 1, none⟩ = false := HR.out.lst.frozen _
      have hlz : (i : Int) < (tails.length : Int) := by omega
      have hlz2 : (tn : Int) < (n : Int) := by omega
      have HY := Lib.hid (And.intro ht (And.intro hy1 hy2))
      clear ht hr bel ht0 ht1 hy1 hy2 ho1 ho2 htn
      go_wp2_with fail
      go_roundg (tails.length - (i + 1))
      case measure => omega
      case rel =>
        have h1 := HR.out.lst.set i hlt (y1, y2)
        have e1 : Eff (fun k => k = lb) wr ((wr.setCell ⟨lb, i * 2, none⟩ (.int .i64 y1)).setCell ⟨lb, i * 2 + 1, none⟩ (.int .i64 y2)) := ((Eff.refl (fun k => k = lb) wr).setCell (p := ⟨lb, i * 2, none⟩) (.inl rfl) _).setCell (p := ⟨lb, i * 2 + 1, none⟩) (.inl rfl) _
        refine ⟨i + 1, by go_num, by omega, by omega, ⟨h1.congr (fun j hj => ?_), e1.heap HR.out.ebx ?_, e1.heap HR.out.res ?_, HR.out.below.trans (e1.belowB HR.out.below.size (fun k hk => ?_))⟩⟩
        · by_cases hji : j = i
          · subst hji
            rw [K.upd_self]
            unfold tailV
            rw [if_pos (by omega)]
            have h2 : tails.getD j 0 = (tn : Int) := by simp [List.getD, HY.out.1]
            rw [h2, Int.toNat_natCast]
            exact Prod.ext HY.out.2.1.symm HY.out.2.2.symm
          · rw [K.upd_ne _ _ hji]
            unfold tailV
            by_cases hlt2 : j < i
            · rw [if_pos hlt2, if_pos (by omega)]
            · rw [if_neg hlt2, if_neg (by omega)]
        · have := HN.out; omega
        · have := HN.out; omega
        · have := HN.out; omega
    · have hlz : ¬ (i : Int) < (tails.length : Int) := by omega
      obtain rfl : i = tails.length := by omega
      have hvals : ValsIn wr (some ⟨lb, 0, none⟩) (tails.map (fun t => v t.toNat)) := by
        intro j y hy
        rw [List.getElem?_map] at hy
        obtain ⟨t, ht, rfl⟩ := Option.map_eq_some_iff.1 hy
        have hj := (List.getElem?_eq_some_iff.1 ht).1
        refine ⟨lb, 0, rfl, ?_⟩
        have h1 := HR.out.lst.at_ j hj
        unfold tailV at h1
        rw [if_pos hj, show tails.getD j 0 = t by simp [List.getD, ht]] at h1
        rw [Nat.zero_add]
        exact h1
      have CC := combine47 (w := wr) (cap := tails.length) cost (tails.map (fun t => v t.toNat)) hvals HC.out.1 HC.out.2 (fun x hx => by
        obtain ⟨t, ht, rfl⟩ := List.mem_map.1 hx
        exact HO.out _ (by have := HT.out t ht; omega)) (by simp; omega)
      rw [List.length_map] at CC
      obtain ⟨r1, hr1⟩ : ∃ x, (K.combV cost (tails.map (fun t => v t.toNat))).1 = x := ⟨_, rfl⟩
      obtain ⟨r2, hr2⟩ : ∃ x, (K.combV cost (tails.map (fun t => v t.toNat))).2 = x := ⟨_, rfl⟩
      have hE : encV (K.combV cost (tails.map (fun t => v t.toNat))) = [.int .i64 r1, .int .i64 r2] := by unfold encV; rw [hr1, hr2]
      rw [hE] at CC
      have HCC := Lib.hid CC
      have HEq : Hid (encV (K.comb (REd.plain ⟨eA, ec, head, tails, cost, l0, l1⟩) v) = [.int .i64 r1, .int .i64 r2]) := by
        rw [← hE]
        show encV (K.combV cost ((tails.map Int.toNat).map v)) = _
        rw [List.map_map]
        rfl
      have g1 : wr.cell? ⟨eb, 2, none⟩ = some (.int .i64 cost) := by simp only [World.cell?, HR.out.ebx]; rfl
      clear hvals CC hr1 hr2 hE
      go_wp2_with fail
      with_reducible refine HCC.out.mono ?_
      rintro r w5 ⟨rfl, b5⟩
      have RB : Hid (w5.heap[rb]? = some (.cells #[.int .i64 0, .int .i64 0] 54 (0, 0))) := below_heap b5 HR.out.res
      have BB := Lib.hid (HR.out.below.trans (b5.mono HR.out.below.size))
      have x1 : w5.cell? ⟨rb, 0, none⟩ = some (.int .i64 0) := by simp only [World.cell?, RB.out]; rfl
      have x2 : w5.cell? ⟨rb, 1, none⟩ = some (.int .i64 0) := by simp only [World.cell?, RB.out]; rfl
      have f1 : w5.frozen? ⟨rb, 0, none⟩ = false := frozen_blk RB.out 0
      have f2 : w5.frozen? ⟨rb, 1, none⟩ = false := frozen_blk RB.out 1
      clear b5
      rw [show ([Value.int .i64 r1, .int .i64 r2] : List Value).toArray = #[.int .i64 r1, .int .i64 r2] from rfl]
      go_wp2_with fail
      rw [HEq.out]
      refine bodyPost_ret (res_c rfl _ _ rb [.int .i64 r1, .int .i64 r2] (by rfl) ?_ Try.underlying54 rfl (by kernel_rfl)) rfl ?_
      · refine box_range (L := [.int .i64 r1, .int .i64 r2]) (t := 54) ?_ 0 _ (fun j v h => by rw [Nat.zero_add]; exact h)
        exact set_cell (set_cell RB.out 0 _) 1 _
      · have hN := HN.out
        exact ⟨rfl, (BB.out.setCell (p := ⟨rb, 0, none⟩) (by show _ ≤ rb; omega) _).setCell (p := ⟨rb, 1, none⟩) (by show _ ≤ rb; omega) _⟩
end Go.Proofs.Ytepfbhigeghjjaa.Q
