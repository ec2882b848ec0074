/- What Solve has given, kept: header, values, chosen hyperedges. Sums of costs, the other tails' inside costs, the inside costs: the program's. outside: the regions that draw, and what lies in memory. outside: invariants of the walk. outside.outside: the walk. Outside, Through, EdgeThrough: the regions that draw. Outside, Through, EdgeThrough: the walks. -/
import Derived.Test.YtepfbhigeghjjaaKRx
import Derived.Test.YtepfbhigeghjjaaK56
import Derived.Test.YtepfbhigeghjjaaQOx
import Derived.Test.YtepfbhigeghjjaaQR
import Derived.Test.YtepfbhigeghjjaaKP
namespace Go.Proofs.Ytepfbhigeghjjaa.Q
open Go.RowKit Go.Proofs.YtepfbhigeghjjaaW.PrintLast
set_option linter.unusedVariables false
set_option linter.unusedSimpArgs false
def intRow (f : Nat → Int) (i : Nat) : Value := .int .i64 (f i)
structure VSt (w wr : World) (hb m len cap : Nat) (A : Option Addr) (bv be : Nat) (v : Nat → K.V) (f : Nat → Int) : Prop where
  below : Below w.heap.size w wr
  hdr : HBZ wr hb m len cap A
  vals : ValsAt wr bv m v
  edg : wr.rowIs be 3 m (intRow f)
theorem VSt.bel {w wr W : World} {hb m len cap : Nat} {A : Option Addr} {bv be : Nat} {v : Nat → K.V} {f : Nat → Int} (h : VSt w wr hb m len cap A bv be v f) (hb' : Below wr.heap.size wr W) : VSt w W hb m len cap A bv be v f :=
  ⟨h.below.trans (hb'.mono h.below.size), h.hdr.bel hb', h.vals.bel hb', row_below h.edg hb'⟩
theorem VSt.v1 {w wr : World} {hb m len cap : Nat} {A : Option Addr} {bv be : Nat} {v : Nat → K.V} {f : Nat → Int} (h : VSt w wr hb m len cap A bv be v f) {i : Nat} (hi : i < m) {a b : Int} (hv : v i = (a, b)) : wr.cell? ⟨bv, i * 2, none⟩ = some (.int .i64 a) ∧ wr.cell? ⟨bv, i * 2 + 1, none⟩ = some (.int .i64 b) := by
  have h1 := h.vals.at_ i hi
  rw [hv] at h1
  exact ⟨h1 0 _ rfl, h1 1 _ rfl⟩
end Go.Proofs.Ytepfbhigeghjjaa.Q
namespace Go.Proofs.Ytepfbhigeghjjaa.Q
open Go.RowKit Go.Proofs.YtepfbhigeghjjaaW.PrintLast
set_option linter.unusedVariables false
set_option linter.unusedSimpArgs false
/-- Sums that stop at Infinite. -/
def satS (l : List Int) : Int := l.foldl (fun a x => min (a + x) 1099511627776) 0
theorem satS_take {l : List Int} {i : Nat} {x : Int} (h : l[i]? = some x) : satS (l.take (i + 1)) = min (satS (l.take i) + x) 1099511627776 := by
  unfold satS
  rw [List.take_add_one, h]
  simp
theorem satS_ok : ∀ (l : List Int) (a : Int), 0 ≤ a → a ≤ 1099511627776 → (∀ x ∈ l, 0 ≤ x) → 0 ≤ l.foldl (fun a x => min (a + x) 1099511627776) a ∧ l.foldl (fun a x => min (a + x) 1099511627776) a ≤ 1099511627776
  | [], a, h0, h1, _ => ⟨h0, h1⟩
  | x :: l, a, h0, h1, h => satS_ok l _ (by have := h x (by simp); show 0 ≤ min (a + x) 1099511627776; omega) (Int.min_le_right _ _) (fun y hy => h y (by simp [hy]))
theorem satS_le {l : List Int} (h : ∀ x ∈ l, 0 ≤ x) (i : Nat) : 0 ≤ satS (l.take i) ∧ satS (l.take i) ≤ 1099511627776 := satS_ok (l.take i) 0 (Int.le_refl _) (by decide) (fun x hx => h x (List.mem_of_mem_take hx))
theorem satS_two {a b : Int} (ha : 0 ≤ a) (ha1 : a ≤ 1099511627776) : satS [a, b] = min (a + b) 1099511627776 := by
  show min (min (0 + a) 1099511627776 + b) 1099511627776 = _
  omega
theorem satS_three {a b c : Int} (ha : 0 ≤ a) (hb : 0 ≤ b) (hc : 0 ≤ c) : satS [a, b, c] = min (a + b + c) 1099511627776 := by
  show min (min (min (0 + a) 1099511627776 + b) 1099511627776 + c) 1099511627776 = _
  omega
set_option maxHeartbeats 4000000 in
set_option maxRecDepth 100000 in
theorem sum75 {w : World} {A : Option Addr} {cap : Nat} (l : List Int) (hA : IntsIn w A l) (hl : ∀ x ∈ l, 0 ≤ x ∧ x ≤ 1099511627776) (hlen : l.length ≤ 1000) : Calls Try.prog 75 #[.slice A l.length cap] w fun r w' => r = .returned (.int .i64 (satS l)) ∧ Below w.heap.size w w' := by
  have HA := Lib.hid hA
  have HL := Lib.hid hl
  clear hA hl
  go_enter Try.func75, Try.ntmps75
  go_wp2_with fail
  go_loopg [3, 8] l.length (fun gk s3 s8 wr => ∃ (i : Nat) (c : Int), s3 = .int .i64 c ∧ s8 = .int .i64 i ∧ i ≤ l.length ∧ l.length - i ≤ gk ∧ Hid (Below w.heap.size w wr ∧ satS (l.take i) = c))
  case atStart => exact ⟨0, 0, rfl, rfl, by omega, by omega, Below.refl _ _, rfl⟩
  case round =>
    obtain ⟨i, c, rfl, rfl, hi, hk, HR⟩ := hrel
    by_cases hlt : i < l.length
    · have hlz : (i : Int) < (l.length : Int) := by omega
      obtain ⟨x, hx⟩ : ∃ x, l[i]? = some x := ⟨_, List.getElem?_eq_getElem hlt⟩
      obtain ⟨b, o, rfl, c0⟩ := HA.out.c HR.out.1 hx
      obtain ⟨x0, x1⟩ := HL.out x (List.mem_of_getElem? hx)
      have hc := satS_le (fun y hy => (HL.out y hy).1) i
      rw [HR.out.2] at hc
      obtain ⟨hc0, hc1⟩ := hc
      have hw : IntKind.i64.wrap (c + x) = c + x := IntWalk.i64_in _ (by omega)
      have HX := Lib.hid hx
      clear hx
      by_cases hm : c + x ≤ 1099511627776
      all_goals
        go_wp2_with fail
        go_roundg (l.length - (i + 1))
        case measure => omega
        case rel => exact ⟨i + 1, _, rfl, by go_num, by omega, by omega, HR.out.1, by rw [satS_take HX.out, HR.out.2]; omega⟩
    · have hlz : ¬ (i : Int) < (l.length : Int) := by omega
      obtain rfl : l.length = i := by omega
      have hc := HR.out.2
      rw [List.take_length] at hc
      have HC := Lib.hid hc
      clear hc
      go_wp2_with fail
      go_ret
      exact ⟨by rw [HC.out]; rfl, HR.out.1⟩
/-! ### others -/
def okIn (n : Nat) (inn : Nat → Int) : Prop := ∀ i, i < n → 0 ≤ inn i ∧ inn i ≤ 1099511627776
theorem oth_nn' {n : Nat} {inn : Nat → Int} (h : okIn n inn) {e : REd} (hok : e.ok n) (k : Int) (j : Nat) : 0 ≤ K.oth inn (e.plain.tails.take j) 0 k :=
  K.oth_nn k _ 0 (fun t ht => by
    obtain ⟨t0, h0, rfl⟩ := List.mem_map.1 (List.mem_of_mem_take ht)
    have := hok.2.2.1 t0 h0
    exact (h _ (by omega)).1)
set_option maxHeartbeats 4000000 in
set_option maxRecDepth 100000 in
theorem others86 {w : World} {n bi : Nat} {inn : Nat → Int} (e : REd) (k : Int) (he : IntsIn w e.A e.tails) (hr : w.rowIs bi 3 n (intRow inn)) (hok : e.ok n) (hin : okIn n inn) :
    Calls Try.prog 86 #[.agg #[.int .i64 e.head, .slice e.A e.tails.length e.cap, .int .i64 e.cost, .int .i64 e.l0, .int .i64 e.l1], .slice (some ⟨bi, 0, none⟩) n n, .int .i64 k] w fun r w' => r = .returned (.int .i64 (min (K.oth inn e.plain.tails 0 k) 1099511627776)) ∧ Below w.heap.size w w' := by
  obtain ⟨eA, ec, head, tails, cost, l0, l1⟩ := e
  have he : IntsIn w eA tails := he
  show Calls Try.prog 86 #[.agg #[.int .i64 head, .slice eA tails.length ec, .int .i64 cost, .int .i64 l0, .int .i64 l1], .slice (some ⟨bi, 0, none⟩) n n, .int .i64 k] w fun r w' => r = .returned (.int .i64 (min (K.oth inn (tails.map Int.toNat) 0 k) 1099511627776)) ∧ Below w.heap.size w w'
  have HE := Lib.hid he
  have HR0 := Lib.hid hr
  have HOK := Lib.hid hok
  have HIN := Lib.hid hin
  have HT4 : Hid (tails.length ≤ 4) := hok.2.2.2.2.2
  clear he hr hok hin
  go_enter Try.func86, Try.ntmps86
  go_wp2_with fail
  go_loopg [7, 13] tails.length (fun gk s7 s13 wr => ∃ (j : Nat) (c : Int), s7 = .int .i64 c ∧ s13 = .int .i64 j ∧ j ≤ tails.length ∧ tails.length - j ≤ gk ∧ Hid (Below w.heap.size w wr ∧ min (K.oth inn ((tails.map Int.toNat).take j) 0 k) 1099511627776 = c))
  case atStart => exact ⟨0, 0, rfl, rfl, by omega, by omega, (Below.refl _ _).alloc (Nat.le_refl _) _, rfl⟩
  case round =>
    obtain ⟨j, c, rfl, rfl, hj, hk, HR⟩ := hrel
    by_cases hlt : j < tails.length
    · have hlz : (j : Int) < (tails.length : Int) := by omega
      obtain ⟨t, ht⟩ : ∃ t, tails[j]? = some t := ⟨_, List.getElem?_eq_getElem hlt⟩
      obtain ⟨tb, tof, rfl, ct⟩ := HE.out.c HR.out.1 ht
      have htb := HOK.out.2.2.1 t (List.mem_of_getElem? ht)
      obtain ⟨tn, rfl⟩ : ∃ tn : Nat, t = tn := ⟨t.toNat, (Int.toNat_of_nonneg htb.1).symm⟩
      have htn : tn < n := by omega
      have htz : (tn : Int) < (n : Int) := by omega
      have hpt : (tails.map Int.toNat)[j]? = some tn := by rw [List.getElem?_map, ht]; rfl
      have hst := K.oth_take (inn := inn) k hpt
      have hnn : 0 ≤ K.oth inn ((tails.map Int.toNat).take j) 0 k := oth_nn' HIN.out HOK.out k j
      have hit := HIN.out tn htn
      have c1 : wr.cell? ⟨bi, tn, none⟩ = some (.int .i64 (inn tn)) := (row_below HR0.out HR.out.1).cell htn
      have hcc := HR.out.2
      obtain ⟨d, hd⟩ : ∃ d, inn tn = d := ⟨_, rfl⟩
      rw [hd] at hit c1 hst
      have hT4 := HT4.out
      have hj3 : j ≤ 3 := by omega
      by_cases hjk : (j : Int) = k
      · rw [if_pos hjk] at hst
        have gk : ((j : Int) == k) = true := beq_iff_eq.2 hjk
        have HN : Hid (min (K.oth inn ((tails.map Int.toNat).take (j + 1)) 0 k) 1099511627776 = c) := by show _ = _; rw [hst, ← hcc]; omega
        clear ht htb hpt hst hnn hit c1 hcc hd hjk hT4
        go_wp2_with fail
        go_roundg (tails.length - (j + 1))
        case measure => omega
        case rel => exact ⟨j + 1, c, rfl, by go_num, by omega, by omega, HR.out.1, HN.out⟩
      · rw [if_neg hjk] at hst
        have gk : ((j : Int) == k) = false := beq_eq_false_iff_ne.2 hjk
        have HN : Hid (min (K.oth inn ((tails.map Int.toNat).take (j + 1)) 0 k) 1099511627776 = min (c + d) 1099511627776) := by show _ = _; rw [hst, ← hcc]; omega
        have al : Below wr.heap.size wr (wr.alloc (.cells #[.int .i64 c, .int .i64 d] 3)) := (Below.refl _ _).alloc (Nat.le_refl _) _
        have CS := sum75 (w := wr.alloc (.cells #[.int .i64 c, .int .i64 d] 3)) (A := some ⟨wr.heap.size, 0, none⟩) (cap := 2) [c, d] (fun q y hy => by
          have hq : q < 2 := (List.getElem?_eq_some_iff.1 hy).1
          refine ⟨_, _, rfl, ?_⟩
          have := box_range (L := [.int .i64 c, .int .i64 d]) (heap_alloc_new wr (.cells #[.int .i64 c, .int .i64 d] 3)) 0 _ (fun j v h => by rw [Nat.zero_add]; exact h) q (.int .i64 y) (by
            have : q = 0 ∨ q = 1 := by omega
            rcases this with rfl | rfl <;> (cases hy; rfl))
          exact this) (fun x hx => by
          simp only [List.mem_cons, List.not_mem_nil, or_false] at hx
          rcases hx with rfl | rfl
          · rw [← hcc]; omega
          · exact hit) (by show 2 ≤ 1000; decide)
        rw [satS_two (by rw [← hcc]; omega) (by rw [← hcc]; omega)] at CS
        have CC : Hid (Calls Try.prog 75 #[.slice (some ⟨wr.heap.size, 0, none⟩) 2 2] (wr.alloc (.cells #[.int .i64 c, .int .i64 d] 3)) fun r w' => r = .returned (.int .i64 (min (c + d) 1099511627776)) ∧ Below (wr.alloc (.cells #[.int .i64 c, .int .i64 d] 3)).heap.size (wr.alloc (.cells #[.int .i64 c, .int .i64 d] 3)) w') := CS
        have AL := Lib.hid al
        clear ht htb hpt hst hnn hit hcc hd hjk hT4 CS al
        go_wp2_with fail
        with_reducible refine CC.out.mono ?_
        rintro r w5 ⟨rfl, b5⟩
        have B5 : Hid (Below w.heap.size w w5) := HR.out.1.trans ((AL.out.trans (b5.mono AL.out.size)).mono HR.out.1.size)
        clear b5 c1
        go_wp2_with fail
        go_roundg (tails.length - (j + 1))
        case measure => omega
        case rel => exact ⟨j + 1, _, rfl, by go_num, by omega, by omega, B5.out, HN.out⟩
    · have hlz : ¬ (j : Int) < (tails.length : Int) := by omega
      obtain rfl : tails.length = j := by omega
      have hc := HR.out.2
      rw [show (tails.map Int.toNat).take tails.length = (tails.map Int.toNat) from List.take_of_length_le (by rw [List.length_map]; exact Nat.le_refl _)] at hc
      have HC := Lib.hid hc
      clear hc
      go_wp2_with fail
      go_ret
      exact ⟨by rw [HC.out]; rfl, HR.out.1⟩
/-! ### inside -/
def InPost (w : World) (n : Nat) (E : List K.Ed) (r : Ending) (w' : World) : Prop :=
  ∃ (bi : Nat) (v : Nat → K.V) (f : Nat → Int), r = .returned (.slice (some ⟨bi, 0, none⟩) n n) ∧ K.Sol E n v f ∧ w'.rowIs bi 3 n (intRow (fun i => (v i).1)) ∧ Below w.heap.size w w' ∧ w.heap.size ≤ bi
def inTo (v : Nat → K.V) (i : Nat) : Nat → Int := fun j => if j < i then (v j).1 else 0
set_option maxHeartbeats 4000000 in
set_option maxRecDepth 100000 in
theorem inside73 {w : World} {n cap : Nat} {A : Option Addr} {es : List REd} (hA : EdsIn w A es) (hok : ∀ e ∈ es, e.ok n) (hn : n ≤ 1000) (hm : es.length ≤ 1000) :
    Calls Try.prog 73 #[.agg #[.int .i64 n, .slice A es.length cap]] w (InPost w n (es.map REd.plain)) := by
  have al : Below w.heap.size w (w.alloc (.cells #[.int .i64 n, .slice A es.length cap] 48)) := (Below.refl _ _).alloc (Nat.le_refl _) _
  have C50 := Lib.hid (solve50 (ecap := cap) (hA.below al) hok hn hm)
  have AL := Lib.hid al
  clear hA hok al
  go_enter Try.func73, Try.ntmps73
  go_wp2_with fail
  with_reducible refine C50.out.mono ?_
  rintro r w3 ⟨bv, be, v, f, rfl, hs, hv, hf, b3, _, _⟩
  have B3 : Hid (Below w.heap.size w w3) := AL.out.trans (b3.mono AL.out.size)
  obtain ⟨W4, hW4⟩ : ∃ W, W = w3.alloc (oI n) := ⟨_, rfl⟩
  obtain ⟨bi, hbi⟩ : ∃ b, b = w3.heap.size := ⟨_, rfl⟩
  have b4 : Below w3.heap.size w3 W4 := by rw [hW4]; exact (Below.refl _ _).alloc (Nat.le_refl _) _
  have S4 : Hid (Below w.heap.size w W4 ∧ ValsAt W4 bv n v ∧ W4.rowIs bi 3 n (intRow (inTo v 0))) := ⟨B3.out.trans (b4.mono B3.out.size), hv.bel b4, by rw [hW4, hbi]; exact (row_of (heap_alloc_new w3 (oI n))).congr (fun i _ => by show _ = Value.int .i64 (inTo v 0 i); unfold inTo; rw [if_neg (Nat.not_lt_zero _)])⟩
  have HGE : Hid (w.heap.size ≤ bi) := by rw [hbi]; exact B3.out.size
  have HS := Lib.hid hs
  have hmk := makeI n (by omega)
  have HW4 := Lib.hid (And.intro hW4 hbi)
  clear b3 hv hs hf hW4 hbi b4
  go_wp2_with fail
  rw [← HW4.out.1, ← HW4.out.2]
  clear hmk HW4
  go_loopg [18] n (fun gk s18 wr => ∃ i : Nat, s18 = .int .i64 i ∧ i ≤ n ∧ n - i ≤ gk ∧ Hid (Below w.heap.size w wr ∧ ValsAt wr bv n v ∧ wr.rowIs bi 3 n (intRow (inTo v i))))
  case atStart => exact ⟨0, rfl, by omega, by omega, S4.out⟩
  case round =>
    clear S4
    obtain ⟨i, rfl, hi, hk, HR⟩ := hrel
    by_cases hlt : i < n
    · have hlz : (i : Int) < (n : Int) := by omega
      obtain ⟨⟨q1, q2⟩, hq⟩ : ∃ x, v i = x := ⟨_, rfl⟩
      have x1 : wr.cell? ⟨bv, i * 2, none⟩ = some (.int .i64 q1) := by have := HR.out.2.1.at_ i hlt 0 (.int .i64 q1) (by rw [hq]; rfl); exact this
      have x2 : wr.cell? ⟨bv, i * 2 + 1, none⟩ = some (.int .i64 q2) := by have := HR.out.2.1.at_ i hlt 1 (.int .i64 q2) (by rw [hq]; rfl); exact this
      obtain ⟨W5, hW5⟩ : ∃ W, W = wr.alloc (.cells #[.int .i64 q1, .int .i64 q2] 54) := ⟨_, rfl⟩
      have b5 : Below wr.heap.size wr W5 := by rw [hW5]; exact (Below.refl _ _).alloc (Nat.le_refl _) _
      have r5 := row_below HR.out.2.2 b5
      obtain ⟨o, ho⟩ : ∃ x, inTo v i i = x := ⟨_, rfl⟩
      have x3 : W5.cell? ⟨bi, i, none⟩ = some (.int .i64 o) := by rw [← ho]; exact r5.cell hlt
      have x4 : W5.frozen? ⟨bi, i, none⟩ = false := r5.frozen i
      have he6 : Eff (fun k => k = bi) W5 (W5.setCell ⟨bi, i, none⟩ (.int .i64 q1)) := eff_setCell W5 bi i _
      have S6 : Hid (Below w.heap.size w (W5.setCell ⟨bi, i, none⟩ (.int .i64 q1)) ∧ ValsAt (W5.setCell ⟨bi, i, none⟩ (.int .i64 q1)) bv n v ∧ (W5.setCell ⟨bi, i, none⟩ (.int .i64 q1)).rowIs bi 3 n (intRow (inTo v (i + 1)))) := by
        obtain ⟨c1, k1, _⟩ := r5
        have v5 := HR.out.2.1.bel b5
        obtain ⟨c2, k2, _⟩ := v5.blk
        have B5 := HR.out.1.trans (b5.mono HR.out.1.size)
        refine ⟨B5.trans (he6.belowB B5.size (fun k hk => by rw [hk]; exact HGE.out)), v5.eff he6 (ne_of_type k2 k1 (by decide)), ((row_below HR.out.2.2 b5).set i (.int .i64 q1)).congr (fun j _ => ?_)⟩
        show (if j = i then Value.int .i64 q1 else Value.int .i64 (inTo v i j)) = Value.int .i64 (inTo v (i + 1) j)
        unfold inTo
        by_cases hji : j = i
        · rw [if_pos hji, if_pos (by omega), hji, hq]
        · rw [if_neg hji]
          by_cases hj : j < i
          · rw [if_pos hj, if_pos (by omega)]
          · rw [if_neg hj, if_neg (by omega)]
      rw [hW5] at x3 x4 S6
      clear hq hW5 b5 r5 ho he6
      go_wp2_with fail
      go_roundg (n - (i + 1))
      case measure => omega
      case rel => exact ⟨i + 1, by go_num, by omega, by omega, S6.out⟩
    · have hlz : ¬ (i : Int) < (n : Int) := by omega
      obtain rfl : n = i := by omega
      go_wp2_with fail
      go_ret
      exact ⟨bi, v, f, rfl, HS.out, HR.out.2.2.congr (fun j hj => by show Value.int .i64 (inTo v n j) = Value.int .i64 (v j).1; unfold inTo; rw [if_pos hj]), HR.out.1, HGE.out⟩
end Go.Proofs.Ytepfbhigeghjjaa.Q
namespace Go.Proofs.Ytepfbhigeghjjaa.Q
open Go.RowKit Go.Proofs.YtepfbhigeghjjaaW.PrintLast
set_option linter.unusedVariables false
set_option linter.unusedSimpArgs false
set_option maxHeartbeats 2000000 in
set_option maxRecDepth 100000 in
theorem out_r13 {xb bf n hn k ul uc n6 k6 : Nat} {uA A6 : Option Addr} {w6 : World} {Q : Exit → Act → World → Prop} (hp : ∀ c (a : Act) (i : Nat) (v : Value) w, Q (.panic c) (a.put (some i) v) w → Q (.panic c) a w)
    {u0 u1 u2 u3 u4 u5 u6 u7 u8 u12 u13 u14 u15 u16 u17 u18 u19 u20 u21 u22 u23 u24 u25 u26 u27 u28 u29 u30 u31 u32 u33 u34 u35 u36 u37 u38 u39 u40 u41 u42 u43 u44 u45 u46 u47 u48 u49 u50 u51 u52 u53 u54 u55 u56 u57 u58 u59 u60 u61 u62 u63 u64 u65 u66 u67 u68 u69 u70 u71 u72 u73 u74 u75 u76 u77 u78 u79 u80 u81 u82 u83 u84 u85 u86 u87 u88 u89 u90 u91 u92 u93 u94 u95 u96 u97 u98 u99 u100 u101 u102 u103 u104 u105 u106 u107 u108 u109 u110 u111 u112 u113 u114 u115 u116 u117 u118 u119 u120 u121 u122 u123 u124 u125 u126 u127 u128 u129 u130 u131 u132 u133 u134 u135 u136 u137 u138 u139 : Value} {wr : World} (hlz : (hn : Int) < (n : Int)) (X0 : wr.cell? ⟨xb, 0, none⟩ = some (.int .i64 hn)) (U1 : wr.cell? ⟨bf, hn, none⟩ = some (.slice uA ul uc)) (AP : Hid ((Builtin.append_ #[22, 22] 22 #[.slice uA ul uc, .slice (some ⟨wr.heap.size, 0, none⟩) 1 1]).run Try.prog (wr.alloc (.cells #[.int .i64 k] 3)).drew = .ok (.slice A6 n6 k6) w6)) (K0 : Hid (w6.cell? ⟨xb, 0, none⟩ = some (.int .i64 hn))) (K1 : Hid (w6.cell? ⟨bf, hn, none⟩ = some (.slice uA ul uc))) (F1 : Hid (w6.frozen? ⟨bf, hn, none⟩ = false))
    (hQ : ∀ (t53 t54 t55 t56 t57 t58 t59 t60 t61 t62 t63 t64 : Value), Q .normal { tmps := #[u0, u1, u2, u3, u4, u5, u6, u7, u8, .slice (some ⟨bf, 0, none⟩) n n, .int .i64 k, .pointer (some ⟨xb, 0, none⟩), u12, u13, u14, u15, u16, u17, u18, u19, u20, u21, u22, u23, u24, u25, u26, u27, u28, u29, u30, u31, u32, u33, u34, u35, u36, u37, u38, u39, u40, u41, u42, u43, u44, u45, u46, u47, u48, u49, u50, u51, u52, t53, t54, t55, t56, t57, t58, t59, t60, t61, t62, t63, t64, u65, u66, u67, u68, u69, u70, u71, u72, u73, u74, u75, u76, u77, u78, u79, u80, u81, u82, u83, u84, u85, u86, u87, u88, u89, u90, u91, u92, u93, u94, u95, u96, u97, u98, u99, u100, u101, u102, u103, u104, u105, u106, u107, u108, u109, u110, u111, u112, u113, u114, u115, u116, u117, u118, u119, u120, u121, u122, u123, u124, u125, u126, u127, u128, u129, u130, u131, u132, u133, u134, u135, u136, u137, u138, u139], defers := [] } (w6.setCell ⟨bf, hn, none⟩ (.slice A6 n6 k6))) :
    Code.wp Try.prog (reg (Try.f72) 13) Q { tmps := #[u0, u1, u2, u3, u4, u5, u6, u7, u8, .slice (some ⟨bf, 0, none⟩) n n, .int .i64 k, .pointer (some ⟨xb, 0, none⟩), u12, u13, u14, u15, u16, u17, u18, u19, u20, u21, u22, u23, u24, u25, u26, u27, u28, u29, u30, u31, u32, u33, u34, u35, u36, u37, u38, u39, u40, u41, u42, u43, u44, u45, u46, u47, u48, u49, u50, u51, u52, u53, u54, u55, u56, u57, u58, u59, u60, u61, u62, u63, u64, u65, u66, u67, u68, u69, u70, u71, u72, u73, u74, u75, u76, u77, u78, u79, u80, u81, u82, u83, u84, u85, u86, u87, u88, u89, u90, u91, u92, u93, u94, u95, u96, u97, u98, u99, u100, u101, u102, u103, u104, u105, u106, u107, u108, u109, u110, u111, u112, u113, u114, u115, u116, u117, u118, u119, u120, u121, u122, u123, u124, u125, u126, u127, u128, u129, u130, u131, u132, u133, u134, u135, u136, u137, u138, u139], defers := [] } wr := by
  have HQ := Lib.hid hQ
  have HP := Lib.hid hp
  clear hQ hp
  refine start_ (n := 13) (S := fun w' => w'.cell? ⟨xb, 0, none⟩ = some (.int .i64 hn) ∧ w'.cell? ⟨bf, hn, none⟩ = some (.slice uA ul uc)) (ds := [12]) #[false, false, false, false, false, false, false, false, false, false, false, false, false] (by kernel_rfl) rfl rfl ⟨X0, U1⟩ (fun hHeld => ?_)
  refine pure_ (i := 0) (N := some 53) (v := ?_) (a' := ?_) #[true, false, false, false, false, false, false, false, false, false, false, false, false] rfl rfl (by kernel_rfl) (fun c a w h => HP.out c a _ _ w h) (Or.inl ⟨by rfl, ?_⟩) ?_ ?_
  rotate_left
  · intro w'
    go_simp
    with_reducible rfl
  rotate_left
  · simp only [Act.put, List.setIfInBounds_toArray, List.set_cons_zero, List.set_cons_succ, i64_w, i32_w]
    rfl
  refine pure_ (i := 1) (N := some 54) (v := ?_) (a' := ?_) #[true, true, false, false, false, false, false, false, false, false, false, false, false] rfl rfl (by kernel_rfl) (fun c a w h => HP.out c a _ _ w h) (Or.inl ⟨by rfl, ?_⟩) ?_ ?_
  rotate_left
  · intro w'
    go_simp
    with_reducible rfl
  rotate_left
  · simp only [Act.put, List.setIfInBounds_toArray, List.set_cons_zero, List.set_cons_succ, i64_w, i32_w]
    rfl
  refine pure_ (i := 3) (N := some 56) (v := ?_) (a' := ?_) #[true, true, false, true, false, false, false, false, false, false, false, false, false] rfl rfl (by kernel_rfl) (fun c a w h => HP.out c a _ _ w h) (Or.inl ⟨by rfl, ?_⟩) ?_ ?_
  rotate_left
  · intro w'
    go_simp
    with_reducible rfl
  rotate_left
  · simp only [Act.put, List.setIfInBounds_toArray, List.set_cons_zero, List.set_cons_succ, i64_w, i32_w]
    rfl
  refine pure_ (i := 4) (N := some 57) (v := ?_) (a' := ?_) #[true, true, false, true, true, false, false, false, false, false, false, false, false] rfl rfl (by kernel_rfl) (fun c a w h => HP.out c a _ _ w h) (Or.inl ⟨by rfl, ?_⟩) ?_ ?_
  rotate_left
  · intro w'
    go_simp
    with_reducible rfl
  rotate_left
  · simp only [Act.put, List.setIfInBounds_toArray, List.set_cons_zero, List.set_cons_succ, i64_w, i32_w]
    rfl
  refine pure_ (i := 8) (N := some 61) (v := ?_) (a' := ?_) #[true, true, false, true, true, false, false, false, true, false, false, false, false] rfl rfl (by kernel_rfl) (fun c a w h => HP.out c a _ _ w h) (Or.inl ⟨by rfl, ?_⟩) ?_ ?_
  rotate_left
  · intro w'
    go_simp
    with_reducible rfl
  rotate_left
  · simp only [Act.put, List.setIfInBounds_toArray, List.set_cons_zero, List.set_cons_succ, i64_w, i32_w]
    rfl
  refine take_ (i := 2) (N := some 55) (v := ?_) (a' := ?_) #[true, true, true, true, true, false, false, false, true, false, false, false, false] rfl rfl (by kernel_rfl) (fun c a w h => HP.out c a _ _ w h) (Or.inl ⟨by rfl, ?_⟩) hHeld ?_ ?_
  rotate_left
  · rintro w' ⟨s0, s1⟩
    go_simp
    with_reducible rfl
  rotate_left
  · simp only [Act.put, List.setIfInBounds_toArray, List.set_cons_zero, List.set_cons_succ, i64_w, i32_w]
    rfl
  refine take_ (i := 5) (N := some 58) (v := ?_) (a' := ?_) #[true, true, true, true, true, true, false, false, true, false, false, false, false] rfl rfl (by kernel_rfl) (fun c a w h => HP.out c a _ _ w h) (Or.inl ⟨by rfl, ?_⟩) hHeld ?_ ?_
  rotate_left
  · rintro w' ⟨s0, s1⟩
    go_simp
    with_reducible rfl
  rotate_left
  · simp only [Act.put, List.setIfInBounds_toArray, List.set_cons_zero, List.set_cons_succ, i64_w, i32_w]
    rfl
  refine pure_ (i := 6) (N := some 59) (v := ?_) (a' := ?_) #[true, true, true, true, true, true, true, false, true, false, false, false, false] rfl rfl (by kernel_rfl) (fun c a w h => HP.out c a _ _ w h) (Or.inl ⟨by rfl, ?_⟩) ?_ ?_
  rotate_left
  · intro w'
    go_simp
    with_reducible rfl
  rotate_left
  · simp only [Act.put, List.setIfInBounds_toArray, List.set_cons_zero, List.set_cons_succ, i64_w, i32_w]
    rfl
  refine take_ (i := 7) (N := some 60) (v := ?_) (a' := ?_) #[true, true, true, true, true, true, true, true, true, false, false, false, false] rfl rfl (by kernel_rfl) (fun c a w h => HP.out c a _ _ w h) (Or.inl ⟨by rfl, ?_⟩) hHeld ?_ ?_
  rotate_left
  · rintro w' ⟨s0, s1⟩
    go_simp
    with_reducible rfl
  rotate_left
  · simp only [Act.put, List.setIfInBounds_toArray, List.set_cons_zero, List.set_cons_succ, i64_w, i32_w]
    rfl
  refine one_ (i := 9) (N := some 62) #[true, true, true, true, true, true, true, true, true, true, false, false, false] rfl rfl (by kernel_rfl) (by decide) (fun K hK => ?_)
  refine value_ (w1 := ?_) (v := ?_) (by rfl) rfl ?_ ?_
  rotate_left 2
  · go_simp
    constructor
    · rfl
    · rfl
  refine hK.out _ _ ⟨((eff_alloc _ _).cell hHeld.1 (fun h => h)), ((eff_alloc _ _).cell hHeld.2 (fun h => h))⟩ (fun hHeld => ?_)
  clear hK K
  refine norm_ (a' := ?_) ?_ ?_
  rotate_left
  · show Act.put _ (some 62) _ = _
    simp only [Act.put, List.setIfInBounds_toArray, List.set_cons_zero, List.set_cons_succ, i64_w, i32_w]
    rfl
  refine one_ (i := 10) (N := some 63) #[true, true, true, true, true, true, true, true, true, true, true, false, false] rfl rfl (by kernel_rfl) (by decide) (fun K hK => ?_)
  refine value_ (w1 := w6) (v := .slice A6 n6 k6) (by rfl) rfl (exec_append rfl (by rfl) (by rfl) AP.out) ?_
  refine hK.out _ _ ⟨K0.out, K1.out⟩ (fun hHeld => ?_)
  clear hK K
  refine norm_ (a' := ?_) ?_ ?_
  rotate_left
  · show Act.put _ (some 63) _ = _
    simp only [Act.put, List.setIfInBounds_toArray, List.set_cons_zero, List.set_cons_succ, i64_w, i32_w]
    rfl
  refine pure_ (i := 11) (N := some 64) (v := ?_) (a' := ?_) #[true, true, true, true, true, true, true, true, true, true, true, true, false] rfl rfl (by kernel_rfl) (fun c a w h => HP.out c a _ _ w h) (Or.inl ⟨by rfl, ?_⟩) ?_ ?_
  rotate_left
  · intro w'
    go_simp
    with_reducible rfl
  rotate_left
  · simp only [Act.put, List.setIfInBounds_toArray, List.set_cons_zero, List.set_cons_succ, i64_w, i32_w]
    rfl
  refine last_ (i := 12) (N := none) #[true, true, true, true, true, true, true, true, true, true, true, true, true] rfl rfl (by kernel_rfl) (by decide) (fun K hK => ?_)
  refine skip_ (w1 := w6.setCell ⟨bf, hn, none⟩ (.slice A6 n6 k6)) (by rfl) rfl (run_u (run_storeAt_one (w := w6) (by kernel_rfl) rfl (o := .slice uA ul uc) K1.out F1.out)) ?_
  refine hK.out _ _ ?_
  clear hK K
  refine done_ (by kernel_rfl) ?_
  exact HQ.out _ _ _ _ _ _ _ _ _ _ _ _

set_option maxHeartbeats 2000000 in
set_option maxRecDepth 100000 in
theorem out_r29 {qb xb bi n k em ec : Nat} {d cost e0 l0 l1 m1 c : Int} {eA : Option Addr} {Q : Exit → Act → World → Prop} (hp : ∀ c (a : Act) (i : Nat) (v : Value) w, Q (.panic c) (a.put (some i) v) w → Q (.panic c) a w)
    {u0 u2 u3 u4 u5 u6 u7 u8 u9 u10 u11 u12 u14 u15 u16 u19 u20 u21 u22 u23 u24 u25 u26 u27 u28 u29 u30 u31 u32 u33 u34 u35 u36 u37 u38 u39 u40 u41 u42 u43 u44 u45 u46 u47 u48 u49 u50 u51 u52 u53 u54 u55 u56 u57 u58 u59 u60 u61 u62 u63 u64 u65 u66 u67 u68 u69 u70 u71 u72 u73 u74 u75 u76 u77 u78 u79 u80 u81 u82 u83 u84 u85 u86 u87 u88 u89 u90 u91 u92 u93 u94 u95 u96 u97 u98 u99 u100 u101 u102 u103 u104 u105 u106 u107 u108 u109 u110 u111 u112 u113 u114 u115 u116 u117 u118 u119 u120 u121 u122 u123 u124 u125 u126 u127 u128 u129 u130 u131 u132 u133 u134 u135 u136 u137 u138 u139 : Value} {wr : World} (Q0 : wr.cell? ⟨qb, 0, none⟩ = some (.int .i64 d)) (X2 : wr.cell? ⟨xb, 2, none⟩ = some (.int .i64 cost)) (XR : wr.rangeAt xb 0 [.int .i64 e0, .slice eA em ec, .int .i64 cost, .int .i64 l0, .int .i64 l1]) (C86 : Hid (∀ W : World, Below wr.heap.size wr W → Calls Try.prog 86 #[.agg #[.int .i64 e0, .slice eA em ec, .int .i64 cost, .int .i64 l0, .int .i64 l1], .slice (some ⟨bi, 0, none⟩) n n, .int .i64 k] W fun r w' => r = .returned (.int .i64 m1) ∧ Below W.heap.size W w')) (C75 : Hid (∀ W : World, Calls Try.prog 75 #[.slice (some ⟨W.heap.size, 0, none⟩) 3 3] (W.alloc (.cells #[.int .i64 d, .int .i64 cost, .int .i64 m1] 3)) fun r w' => r = .returned (.int .i64 c) ∧ Below (W.alloc (.cells #[.int .i64 d, .int .i64 cost, .int .i64 m1] 3)).heap.size (W.alloc (.cells #[.int .i64 d, .int .i64 cost, .int .i64 m1] 3)) w'))
    (hQ : ∀ (w8 : World), Below wr.heap.size wr w8 → ∀ (t113 t114 t115 t116 t117 t118 t119 t120 t121 t122 : Value), Q .normal { tmps := #[u0, .slice (some ⟨bi, 0, none⟩) n n, u2, u3, u4, u5, u6, u7, u8, u9, u10, u11, u12, .pointer (some ⟨qb, 0, none⟩), u14, u15, u16, .pointer (some ⟨xb, 0, none⟩), .int .i64 k, u19, .int .i64 c, u21, u22, u23, u24, u25, u26, u27, u28, u29, u30, u31, u32, u33, u34, u35, u36, u37, u38, u39, u40, u41, u42, u43, u44, u45, u46, u47, u48, u49, u50, u51, u52, u53, u54, u55, u56, u57, u58, u59, u60, u61, u62, u63, u64, u65, u66, u67, u68, u69, u70, u71, u72, u73, u74, u75, u76, u77, u78, u79, u80, u81, u82, u83, u84, u85, u86, u87, u88, u89, u90, u91, u92, u93, u94, u95, u96, u97, u98, u99, u100, u101, u102, u103, u104, u105, u106, u107, u108, u109, u110, u111, u112, t113, t114, t115, t116, t117, t118, t119, t120, t121, t122, u123, u124, u125, u126, u127, u128, u129, u130, u131, u132, u133, u134, u135, u136, u137, u138, u139], defers := [] } (w8)) :
    Code.wp Try.prog (reg (Try.f72) 29) Q { tmps := #[u0, .slice (some ⟨bi, 0, none⟩) n n, u2, u3, u4, u5, u6, u7, u8, u9, u10, u11, u12, .pointer (some ⟨qb, 0, none⟩), u14, u15, u16, .pointer (some ⟨xb, 0, none⟩), .int .i64 k, u19, u20, u21, u22, u23, u24, u25, u26, u27, u28, u29, u30, u31, u32, u33, u34, u35, u36, u37, u38, u39, u40, u41, u42, u43, u44, u45, u46, u47, u48, u49, u50, u51, u52, u53, u54, u55, u56, u57, u58, u59, u60, u61, u62, u63, u64, u65, u66, u67, u68, u69, u70, u71, u72, u73, u74, u75, u76, u77, u78, u79, u80, u81, u82, u83, u84, u85, u86, u87, u88, u89, u90, u91, u92, u93, u94, u95, u96, u97, u98, u99, u100, u101, u102, u103, u104, u105, u106, u107, u108, u109, u110, u111, u112, u113, u114, u115, u116, u117, u118, u119, u120, u121, u122, u123, u124, u125, u126, u127, u128, u129, u130, u131, u132, u133, u134, u135, u136, u137, u138, u139], defers := [] } wr := by
  have HQ := Lib.hid hQ
  have HP := Lib.hid hp
  clear hQ hp
  refine start_ (n := 11) (S := fun w' => w'.cell? ⟨qb, 0, none⟩ = some (.int .i64 d) ∧ w'.cell? ⟨xb, 2, none⟩ = some (.int .i64 cost) ∧ w'.rangeAt xb 0 [.int .i64 e0, .slice eA em ec, .int .i64 cost, .int .i64 l0, .int .i64 l1]) (ds := []) #[false, false, false, false, false, false, false, false, false, false, false] (by kernel_rfl) rfl rfl ⟨Q0, X2, XR⟩ (fun hHeld => ?_)
  refine pure_ (i := 0) (N := some 113) (v := ?_) (a' := ?_) #[true, false, false, false, false, false, false, false, false, false, false] rfl rfl (by kernel_rfl) (fun c a w h => HP.out c a _ _ w h) (Or.inl ⟨by rfl, ?_⟩) ?_ ?_
  rotate_left
  · intro w'
    go_simp
    with_reducible rfl
  rotate_left
  · simp only [Act.put, List.setIfInBounds_toArray, List.set_cons_zero, List.set_cons_succ, i64_w, i32_w]
    rfl
  refine pure_ (i := 2) (N := some 115) (v := ?_) (a' := ?_) #[true, false, true, false, false, false, false, false, false, false, false] rfl rfl (by kernel_rfl) (fun c a w h => HP.out c a _ _ w h) (Or.inl ⟨by rfl, ?_⟩) ?_ ?_
  rotate_left
  · intro w'
    go_simp
    with_reducible rfl
  rotate_left
  · simp only [Act.put, List.setIfInBounds_toArray, List.set_cons_zero, List.set_cons_succ, i64_w, i32_w]
    rfl
  refine pure_ (i := 5) (N := some 118) (v := ?_) (a' := ?_) #[true, false, true, false, false, true, false, false, false, false, false] rfl rfl (by kernel_rfl) (fun c a w h => HP.out c a _ _ w h) (Or.inl ⟨by rfl, ?_⟩) ?_ ?_
  rotate_left
  · intro w'
    go_simp
    with_reducible rfl
  rotate_left
  · simp only [Act.put, List.setIfInBounds_toArray, List.set_cons_zero, List.set_cons_succ, i64_w, i32_w]
    rfl
  refine pure_ (i := 6) (N := some 119) (v := ?_) (a' := ?_) #[true, false, true, false, false, true, true, false, false, false, false] rfl rfl (by kernel_rfl) (fun c a w h => HP.out c a _ _ w h) (Or.inl ⟨by rfl, ?_⟩) ?_ ?_
  rotate_left
  · intro w'
    go_simp
    with_reducible rfl
  rotate_left
  · simp only [Act.put, List.setIfInBounds_toArray, List.set_cons_zero, List.set_cons_succ, i64_w, i32_w]
    rfl
  refine take_ (i := 1) (N := some 114) (v := ?_) (a' := ?_) #[true, true, true, false, false, true, true, false, false, false, false] rfl rfl (by kernel_rfl) (fun c a w h => HP.out c a _ _ w h) (Or.inl ⟨by rfl, ?_⟩) hHeld ?_ ?_
  rotate_left
  · rintro w' ⟨s0, s1, s2⟩
    go_simp
    with_reducible rfl
  rotate_left
  · simp only [Act.put, List.setIfInBounds_toArray, List.set_cons_zero, List.set_cons_succ, i64_w, i32_w]
    rfl
  refine take_ (i := 3) (N := some 116) (v := ?_) (a' := ?_) #[true, true, true, true, false, true, true, false, false, false, false] rfl rfl (by kernel_rfl) (fun c a w h => HP.out c a _ _ w h) (Or.inl ⟨by rfl, ?_⟩) hHeld ?_ ?_
  rotate_left
  · rintro w' ⟨s0, s1, s2⟩
    go_simp
    with_reducible rfl
  rotate_left
  · simp only [Act.put, List.setIfInBounds_toArray, List.set_cons_zero, List.set_cons_succ, i64_w, i32_w]
    rfl
  refine take_ (i := 4) (N := some 117) (a' := ?_) #[true, true, true, true, true, true, true, false, false, false, false] rfl rfl (by kernel_rfl) (fun c a w h => HP.out c a _ _ w h) (yieldsIf_load_mid (by rfl) 60 _ rfl xb 0 (by rfl) [.int .i64 e0, .slice eA em ec, .int .i64 cost, .int .i64 l0, .int .i64 l1] _ (fun w' h => h.2.2) Try.underlying60 rfl (by kernel_rfl)) hHeld ?_ ?_
  rotate_left
  · simp only [Act.put, List.setIfInBounds_toArray, List.set_cons_zero, List.set_cons_succ, i64_w, i32_w]
    rfl
  refine one_ (i := 7) (N := some 120) #[true, true, true, true, true, true, true, true, false, false, false] rfl rfl (by kernel_rfl) (by decide) (fun K hK => ?_)
  refine goesV_ Try.func86 (by kernel_rfl) rfl #[.agg #[.int .i64 e0, .slice eA em ec, .int .i64 cost, .int .i64 l0, .int .i64 l1], .slice (some ⟨bi, 0, none⟩) n n, .int .i64 k] (by rfl) rfl rfl (by rfl) (by simp only [List.map_toArray, List.map_cons, List.map_nil]; rfl) ?_
  with_reducible refine (C86.out _ (Below.refl wr.heap.size wr).drew).mono ?_
  rintro r w5 ⟨rfl, b5⟩
  have BB5 : Hid (Below wr.heap.size wr w5) := (Below.refl _ _).drew.trans b5
  have e5 := Eff.of_below b5 (fun _ => False)
  clear b5
  refine ⟨_, rfl, ?_⟩
  refine hK.out _ _ ⟨(Eff.cell e5 hHeld.1 (fun h => h)), (Eff.cell e5 hHeld.2.1 (fun h => h)), (rangeAt_eff hHeld.2.2 e5 (fun h => h))⟩ (fun hHeld => ?_)
  clear hK K
  refine norm_ (a' := ?_) ?_ ?_
  rotate_left
  · show Act.put _ (some 120) _ = _
    simp only [Act.put, List.setIfInBounds_toArray, List.set_cons_zero, List.set_cons_succ, i64_w, i32_w]
    rfl
  refine one_ (i := 8) (N := some 121) #[true, true, true, true, true, true, true, true, true, false, false] rfl rfl (by kernel_rfl) (by decide) (fun K hK => ?_)
  refine value_ (w1 := ?_) (v := ?_) (by rfl) rfl ?_ ?_
  rotate_left 2
  · go_simp
    constructor
    · rfl
    · rfl
  refine hK.out _ _ ⟨(Eff.cell (eff_alloc _ _) hHeld.1 (fun h => h)), (Eff.cell (eff_alloc _ _) hHeld.2.1 (fun h => h)), (rangeAt_eff hHeld.2.2 (eff_alloc _ _) (fun h => h))⟩ (fun hHeld => ?_)
  clear hK K
  refine norm_ (a' := ?_) ?_ ?_
  rotate_left
  · show Act.put _ (some 121) _ = _
    simp only [Act.put, List.setIfInBounds_toArray, List.set_cons_zero, List.set_cons_succ, i64_w, i32_w]
    rfl
  refine one_ (i := 9) (N := some 122) #[true, true, true, true, true, true, true, true, true, true, false] rfl rfl (by kernel_rfl) (by decide) (fun K hK => ?_)
  refine goesV_ Try.func75 (by kernel_rfl) rfl #[.slice (some ⟨w5.heap.size, 0, none⟩) 3 3] (by rfl) rfl rfl (by rfl) (by simp only [List.map_toArray, List.map_cons, List.map_nil]; rfl) ?_
  with_reducible refine (C75.out w5).mono ?_
  rintro r w6 ⟨rfl, b6⟩
  have BB6 : Hid (Below wr.heap.size wr w6) := (BB5.out.alloc BB5.out.size _).trans (b6.mono (by have := BB5.out.size; simp; omega))
  have e6 := Eff.of_below b6 (fun _ => False)
  clear b6
  refine ⟨_, rfl, ?_⟩
  refine hK.out _ _ ⟨(Eff.cell e6 hHeld.1 (fun h => h)), (Eff.cell e6 hHeld.2.1 (fun h => h)), (rangeAt_eff hHeld.2.2 e6 (fun h => h))⟩ (fun hHeld => ?_)
  clear hK K
  refine norm_ (a' := ?_) ?_ ?_
  rotate_left
  · show Act.put _ (some 122) _ = _
    simp only [Act.put, List.setIfInBounds_toArray, List.set_cons_zero, List.set_cons_succ, i64_w, i32_w]
    rfl
  refine pure_ (i := 10) (N := some 20) (v := ?_) (a' := ?_) #[true, true, true, true, true, true, true, true, true, true, true] rfl rfl (by kernel_rfl) (fun c a w h => HP.out c a _ _ w h) (Or.inl ⟨by rfl, ?_⟩) ?_ ?_
  rotate_left
  · intro w'
    go_simp
    with_reducible rfl
  rotate_left
  · simp only [Act.put, List.setIfInBounds_toArray, List.set_cons_zero, List.set_cons_succ, i64_w, i32_w]
    rfl
  refine done_ (by kernel_rfl) ?_
  exact HQ.out _ BB6.out _ _ _ _ _ _ _ _ _ _

/-- outside's memory: the header, the costs, the hyperedges of each head. -/
structure OSt (w wr : World) (hb bo bf n ecap : Nat) (A : Option Addr) (len : Nat) (out : Nat → Int) (us : Nat → Value) (L : Nat → List Nat) : Prop where
  hdr : HBZ wr hb n len ecap A
  out : wr.rowIs bo 3 n (intRow out)
  use : UsesAt wr w.heap.size bo bf bo n us L
  below : Below w.heap.size w wr
  ge : w.heap.size ≤ bo ∧ w.heap.size ≤ bf
section
variable {w wr W : World} {hb bo bf n ecap len : Nat} {A : Option Addr} {out : Nat → Int} {us : Nat → Value} {L : Nat → List Nat}
theorem OSt.bel (h : OSt w wr hb bo bf n ecap A len out us L) (hbl : Below wr.heap.size wr W) : OSt w W hb bo bf n ecap A len out us L :=
  ⟨h.hdr.bel hbl, row_below h.out hbl, h.use.eff (Eff.of_below hbl (fun _ => False)) (fun h => h) (fun _ _ _ _ h => h), h.below.trans (hbl.mono h.below.size), h.ge⟩
theorem OSt.effT (h : OSt w wr hb bo bf n ecap A len out us L) (he : EffT 138 140 w.heap.size wr W) : OSt w W hb bo bf n ecap A len out us L := by
  have row : ∀ {b : Nat} {t : TypeId} {m : Nat} {f : Nat → Value}, wr.rowIs b t m f → t ≠ 138 → t ≠ 140 → W.rowIs b t m f := by
    rintro b t m f ⟨c, h1, h2, h3⟩ n1 n2
    exact ⟨c, he.blk b _ _ _ h1 n1 n2, h2, h3⟩
  refine ⟨he.blk hb _ _ _ h.hdr (by decide) (by decide), row h.out (by decide) (by decide), ⟨row h.use.row (by decide) (by decide), fun t ht => ?_, h.use.ne, h.use.ne2, h.use.apart⟩, h.below.trans (he.below h.below.size), h.ge⟩
  refine ⟨(h.use.at_ t ht).1, (h.use.at_ t ht).2.imp id ?_⟩
  rintro ⟨b, cap, cur, h1, h2, h3, h4⟩
  exact ⟨b, cap, cur, h1, h2, he.blk b _ _ _ h3 (by decide) (by decide), h4⟩
theorem OSt.setOut (h : OSt w wr hb bo bf n ecap A len out us L) (i : Nat) (x : Int) : OSt w (wr.setCell ⟨bo, i, none⟩ (.int .i64 x)) hb bo bf n ecap A len (K.upd out i x) us L := by
  have he : Eff (fun k => k = bo) wr (wr.setCell ⟨bo, i, none⟩ (.int .i64 x)) := eff_setCell wr bo i _
  obtain ⟨c1, k1, _⟩ := h.out
  obtain ⟨c2, k2, _⟩ := h.use.row
  have hh : wr.heap[hb]? = _ := h.hdr
  exact ⟨he.heap h.hdr (ne_of_type hh k1 (by decide)), (h.out.set i (.int .i64 x)).congr (fun j _ => by show (if j = i then Value.int .i64 x else Value.int .i64 (out j)) = Value.int .i64 (K.upd out i x j); unfold K.upd; split <;> rfl), h.use.eff he (ne_of_type k2 k1 (by decide)) (fun t ht k hk e => h.use.ne t ht (by rw [hk, e])), h.below.trans (he.belowB h.below.size (fun k hk => by rw [hk]; exact h.ge.1)), h.ge⟩
theorem OSt.congr (h : OSt w wr hb bo bf n ecap A len out us L) {out' : Nat → Int} {L' : Nat → List Nat} (h1 : ∀ i, i < n → out i = out' i) (h2 : ∀ t, t < n → L t = L' t) : OSt w wr hb bo bf n ecap A len out' us L' :=
  ⟨h.hdr, h.out.congr (fun i hi => by show Value.int .i64 (out i) = Value.int .i64 (out' i); rw [h1 i hi]), ⟨h.use.row, fun t ht => by rw [← h2 t ht]; exact h.use.at_ t ht, h.use.ne, h.use.ne2, h.use.apart⟩, h.below, h.ge⟩
theorem OSt.append (h : OSt w wr hb bo bf n ecap A len out us L) {tn : Nat} (htn : tn < n) (k : Nat) {X w3 : World} {v1 : Value} (hX : Eff (fun _ => False) wr X) (ho : w3.ownsRow w.heap.size 3 1 v1 ((L tn).length + 1) (((L tn).map fun (k : Nat) => Value.int .i64 (k : Int)) ++ [.int .i64 (k : Int)])) (hg : Eff (fun b => some b = (us tn).ownBlock) X w3) (ha : v1.ownBlock = (us tn).ownBlock ∨ v1.ownBlock = some X.heap.size) :
    OSt w (w3.setCell ⟨bf, tn, none⟩ v1) hb bo bf n ecap A len out (K.upd us tn v1) (K.upd L tn (L tn ++ [k])) ∧ (∀ {b : Nat} {c : Array Value} {t : TypeId}, wr.heap[b]? = some (.cells c t (0, 0)) → t ≠ 3 → w3.heap[b]? = some (.cells c t (0, 0))) := by
  obtain ⟨c1, k1, _⟩ := h.out
  obtain ⟨c2, k2, _⟩ := h.use.row
  have hh : wr.heap[hb]? = _ := h.hdr
  have e1 : Eff (fun b => some b = (us tn).ownBlock) wr w3 := (hX.mono (fun _ h => h.elim)).trans hg (fun k h => .inl h)
  have e2 : Eff (fun b => b = bf) w3 (w3.setCell ⟨bf, tn, none⟩ v1) := eff_setCell w3 bf tn v1
  have hT : ∀ b, some b = (us tn).ownBlock → ∃ c, wr.heap[b]? = some (.cells c 3 (0, 0)) := fun b hb => h.use.blk tn b htn hb.symm
  have e3 : Eff (fun b => some b = (us tn).ownBlock ∨ b = bf) wr (w3.setCell ⟨bf, tn, none⟩ v1) := (e1.mono (fun k h => .inl (.inl h))).trans e2 (fun k h => .inl (.inr h))
  have no : ∀ {b : Nat} {c : Array Value} {t : TypeId}, wr.heap[b]? = some (.cells c t (0, 0)) → t ≠ 3 → t ≠ 22 → ¬ (some b = (us tn).ownBlock ∨ b = bf) := by
    intro b c t hb h3 h22 hh
    rcases hh with hh | hh
    · obtain ⟨c', hc'⟩ := hT b hh
      exact ne_of_type hb hc' h3 rfl
    · exact ne_of_type hb k2 h22 hh
  have nbo : ¬ (some bo = (us tn).ownBlock ∨ bo = bf) := fun hh => hh.elim (fun h1 => h.use.ne tn htn h1.symm) (fun h1 => ne_of_type k1 k2 (by decide) h1)
  have nbu : ¬ some bf = (us tn).ownBlock := fun hh => by
    obtain ⟨c', hc'⟩ := hT bf hh
    exact ne_of_type k2 hc' (by decide) rfl
  have lt : ∀ {b : Nat} {o : Obj}, wr.heap[b]? = some o → b < X.heap.size := fun hb => Nat.lt_of_lt_of_le (Array.getElem?_eq_some_iff.1 hb).1 hX.size
  have vne : ∀ {b : Nat} {o : Obj}, wr.heap[b]? = some o → ¬ some b = (us tn).ownBlock → v1.ownBlock ≠ some b := fun {b o} hb hn => by
    rcases ha with h1 | h1
    · rw [h1]; exact fun e => hn e.symm
    · rw [h1]; intro e; have := lt hb; cases e; omega
  have hget : ∀ t, t ≠ tn → K.upd us tn v1 t = us t := fun t ht => K.upd_ne _ _ ht
  have hgetL : ∀ t, t ≠ tn → K.upd L tn (L tn ++ [k]) t = L t := fun t ht => K.upd_ne _ _ ht
  have vbo : v1.ownBlock ≠ some bo := vne k1 (fun hh => h.use.ne tn htn hh.symm)
  have vapart : ∀ u, u < n → u ≠ tn → ∀ b, v1.ownBlock = some b → (us u).ownBlock ≠ some b := fun u hu hne b hb hub => by
    rcases ha with h1 | h1
    · exact h.use.apart tn u htn hu (fun e => hne e.symm) b (by rw [← h1]; exact hb) hub
    · rw [h1] at hb
      cases hb
      obtain ⟨c', hc'⟩ := h.use.blk u _ hu hub
      have := lt hc'
      omega
  have hne2 : ∀ t, t < n → (K.upd us tn v1 t).ownBlock ≠ some bo := fun t ht => by
    by_cases h1 : t = tn
    · subst h1
      rw [K.upd_self]
      exact vbo
    · rw [hget t h1]
      exact h.use.ne t ht
  refine ⟨⟨e3.heap h.hdr (no hh (by decide) (by decide)), rowIs_eff h.out e3 nbo, ⟨?_, fun t ht => ?_, hne2, hne2, fun t u ht hu htu b hb => ?_⟩, ?_, h.ge⟩, fun {b c t} hb ht => e1.heap hb (fun hh => by
    obtain ⟨c', hc'⟩ := hT b hh
    exact ne_of_type hb hc' ht rfl)⟩
  · exact ((rowIs_eff h.use.row e1 nbu).set tn v1).congr (fun j _ => by unfold K.upd; split <;> rfl)
  · by_cases h1 : t = tn
    · subst h1
      rw [K.upd_self, K.upd_self, List.length_append, List.map_append]
      exact ownsRow_keep ho (fun b o hb hh => e2.heap hh (fun e => vne k2 nbu (by rw [hb, e])))
    · rw [hget t h1, hgetL t h1]
      refine ownsRow_keep (h.use.at_ t ht) (fun b o hb hh => e3.heap hh ?_)
      rintro (h2 | h2)
      · exact h.use.apart t tn ht htn h1 b hb h2.symm
      · subst h2
        obtain ⟨c', hc'⟩ := h.use.blk t _ ht hb
        exact ne_of_type k2 hc' (by decide) rfl
  · by_cases h1 : t = tn
    · subst h1
      rw [K.upd_self] at hb
      rw [hget u (fun e => htu e.symm)]
      exact vapart u hu (fun e => htu e.symm) b hb
    · rw [hget t h1] at hb
      by_cases h2 : u = tn
      · subst h2
        rw [K.upd_self]
        exact fun e => vapart t ht h1 b e hb
      · rw [hget u h2]
        exact h.use.apart t u ht hu htu b hb
  · refine h.below.trans (e3.belowB h.below.size (fun b hb => ?_))
    rcases hb with hb | hb
    · exact (World.ownsRow.lt (h.use.at_ tn htn) b hb.symm).1
    · rw [hb]; exact h.ge.2
end
/-! ### The hyperedges of each head -/
def ofTo (E : List K.Ed) (k x : Nat) : List Nat := (List.range k).filter (fun j => (E[j]?.map (·.head)) == some x)
theorem ofTo_next {E : List K.Ed} {k x : Nat} {e : K.Ed} (he : E[k]? = some e) : ofTo E (k + 1) x = if x = e.head then ofTo E k x ++ [k] else ofTo E k x := by
  unfold ofTo
  rw [List.range_succ, List.filter_append]
  by_cases h : x = e.head
  · subst h
    simp [he]
  · rw [if_neg h]
    have : ¬ e.head = x := fun h' => h h'.symm
    simp [he, this]
theorem ofTo_mem {E : List K.Ed} {k x j : Nat} : j ∈ ofTo E k x ↔ j < k ∧ ∃ e, E[j]? = some e ∧ e.head = x := by
  unfold ofTo
  rw [List.mem_filter, List.mem_range]
  constructor
  · rintro ⟨h1, h2⟩
    refine ⟨h1, ?_⟩
    cases he : E[j]? with
    | none => rw [he] at h2; simp at h2
    | some e => rw [he] at h2; simp at h2; exact ⟨e, rfl, h2⟩
  · rintro ⟨h1, e, he, h2⟩
    exact ⟨h1, by rw [he]; simp [h2]⟩
theorem ofTo_len (E : List K.Ed) (k x : Nat) : (ofTo E k x).length ≤ k := by
  unfold ofTo
  refine Nat.le_trans (List.length_filter_le _ _) ?_
  rw [List.length_range]
  exact Nat.le_refl _
theorem bef_cost {x m : En K.O2} (h : bef x m = false) : m.x.cost ≤ x.x.cost := by
  rw [nbef_iff] at h
  have h1 : ¬ (x.x.cost < m.x.cost ∨ x.x.cost = m.x.cost ∧ ((0 : Int) < 0 ∨ (0 : Int) = 0 ∧ x.t < m.t)) := h
  omega
/-- What holds between two pops: p candidates have been pushed. -/
structure OPl (E : List K.Ed) (n : Nat) (inn : Nat → Int) (root : Nat) (out : Nat → Int) (S : List (En K.O2)) (D : List Nat) (last : Int) (R : Nat → Nat → Prop) (p : Nat) : Prop where
  oi : K.OI E n inn root out (S.map (·.x)) D last R
  hnd : ∀ x ∈ S, x.h < (p : Int)
  len : S.length ≤ p
end Go.Proofs.Ytepfbhigeghjjaa.Q
namespace Go.Proofs.Ytepfbhigeghjjaa.Q
open Go.RowKit Go.Proofs.YtepfbhigeghjjaaW.PrintLast
set_option linter.unusedVariables false
set_option linter.unusedSimpArgs false

/-- .. with the queue. -/
structure OQ (w wr : World) (hb bo bf q n ecap : Nat) (A : Option Addr) (len : Nat) (out : Nat → Int) (us : Nat → Value) (L : Nat → List Nat) (S : List (En K.O2)) (p : Nat) : Prop where
  st : OSt w wr hb bo bf n ecap A len out us L
  q : QA 138 140 lessO w.heap.size wr q S (p : Int) (p : Int)
section
variable {w wr W : World} {hb bo bf q n ecap len p : Nat} {A : Option Addr} {out : Nat → Int} {us : Nat → Value} {L : Nat → List Nat} {S : List (En K.O2)}
theorem OQ.bel (h : OQ w wr hb bo bf q n ecap A len out us L S p) (hbl : Below wr.heap.size wr W) : OQ w W hb bo bf q n ecap A len out us L S p := ⟨h.st.bel hbl, h.q.eff hbl⟩
theorem OQ.setOut (h : OQ w wr hb bo bf q n ecap A len out us L S p) (i : Nat) (x : Int) : OQ w (wr.setCell ⟨bo, i, none⟩ (.int .i64 x)) hb bo bf q n ecap A len (K.upd out i x) us L S p := by
  obtain ⟨c1, k1, _⟩ := h.st.out
  exact ⟨h.st.setOut i x, h.q.cells k1 (by decide) (by decide) (eff_setCell wr bo i _)⟩
theorem OQ.keep (h : OQ w wr hb bo bf q n ecap A len out us L S p) {i b : Nat} {x : Value} {c : Array Value} {t : TypeId} (hb : wr.heap[b]? = some (.cells c t (0, 0))) (ht : t ≠ 3) : (wr.setCell ⟨bo, i, none⟩ x).heap[b]? = some (.cells c t (0, 0)) := by
  obtain ⟨c1, k1, _⟩ := h.st.out
  exact (eff_setCell wr bo i x).heap hb (ne_of_type hb k1 ht)
theorem OSt.addr (h : OSt w wr hb bo bf n ecap A len out us L) {t j k m uc : Nat} {uA : Option Addr} (ht : t < n) (hj : (L t)[j]? = some k) (hu : us t = .slice uA m uc) : ∃ ub, uA = some ⟨ub, 0, none⟩ := by
  have h1 := h.use.at_ t ht
  rw [hu] at h1
  rcases h1.2 with ⟨h2, h3⟩ | ⟨b, cap, cur, h2, _⟩
  · rw [List.length_eq_zero_iff.1 h3] at hj
    cases hj
  · cases h2
    exact ⟨b, rfl⟩
theorem OSt.at_ (h : OSt w wr hb bo bf n ecap A len out us L) {t j k m uc ub : Nat} (ht : t < n) (hj : (L t)[j]? = some k) (hu : us t = .slice (some ⟨ub, 0, none⟩) m uc) : wr.cell? ⟨ub, j, none⟩ = some (.int .i64 k) := by
  have h1 := h.use.at_ t ht
  rw [hu] at h1
  have h3 := World.ownsRow.cells h1 (g := ub) rfl j (.int .i64 k) (by rw [List.getElem?_map, hj]; rfl)
  rw [Addr.add_mid, Nat.zero_add] at h3
  exact h3
end
def OutIs (E : List K.Ed) (n : Nat) (inn : Nat → Int) (root : Int) (out : Nat → Int) : Prop := (0 ≤ root ∧ root < n → K.OSol E n inn root.toNat out) ∧ (¬ (0 ≤ root ∧ root < n) → ∀ i, i < n → out i = 1099511627776)
def OutPost (w : World) (n : Nat) (E : List K.Ed) (inn : Nat → Int) (root : Int) (r : Ending) (w' : World) : Prop :=
  ∃ (bo : Nat) (out : Nat → Int), r = .returned (.slice (some ⟨bo, 0, none⟩) n n) ∧ OutIs E n inn root out ∧ w'.rowIs bo 3 n (intRow out) ∧ Below w.heap.size w w' ∧ w.heap.size ≤ bo
/-- What is done of m's hyperedges: a of the list l whole, of the next b tails. -/
def Cov (E : List K.Ed) (D : List Nat) (R : Nat → Nat → Prop) : Prop := ∀ (j : Nat) e (k : Nat), E[j]? = some e → e.head ∈ D → k < e.tails.length → R j k
def CovL (E : List K.Ed) (D : List Nat) (R : Nat → Nat → Prop) (l : List Nat) (a : Nat) : Prop := Cov E D R ∧ ∀ (x : Nat) (j : Nat) e (k : Nat), x < a → l[x]? = some j → E[j]? = some e → k < e.tails.length → R j k
theorem Cov.mono {E : List K.Ed} {D : List Nat} {R R' : Nat → Nat → Prop} (h : Cov E D R) (hr : ∀ j k, R j k → R' j k) : Cov E D R' := fun j e k h1 h2 h3 => hr _ _ (h j e k h1 h2 h3)
theorem CovL.mono {E : List K.Ed} {D : List Nat} {R R' : Nat → Nat → Prop} {l : List Nat} {a : Nat} (h : CovL E D R l a) (hr : ∀ j k, R j k → R' j k) : CovL E D R' l a := ⟨h.1.mono hr, fun x j e k h1 h2 h3 h4 => hr _ _ (h.2 x j e k h1 h2 h3 h4)⟩
theorem CovL.start {E : List K.Ed} {D : List Nat} {R : Nat → Nat → Prop} {l : List Nat} (h : Cov E D R) : CovL E D R l 0 := ⟨h, fun x _ _ _ hx => absurd hx (Nat.not_lt_zero x)⟩
theorem CovL.next {E : List K.Ed} {D : List Nat} {R : Nat → Nat → Prop} {l : List Nat} {a j : Nat} {e : K.Ed} (h : CovL E D R l a) (hj : l[a]? = some j) (he : E[j]? = some e) (hb : ∀ k, k < e.tails.length → R j k) : CovL E D R l (a + 1) :=
  ⟨h.1, fun x j' e' k h1 h2 h3 h4 => by
    by_cases hx : x = a
    · subst hx
      rw [hj] at h2
      cases h2
      rw [he] at h3
      cases h3
      exact hb k h4
    · exact h.2 x j' e' k (by omega) h2 h3 h4⟩
theorem CovL.done {E : List K.Ed} {D : List Nat} {R : Nat → Nat → Prop} {m : Nat} (h : CovL E D R (ofTo E E.length m) (ofTo E E.length m).length) : Cov E (m :: D) R := fun j e k h1 h2 h3 => by
  rcases List.mem_cons.1 h2 with h2 | h2
  · have hm : j ∈ ofTo E E.length m := ofTo_mem.2 ⟨(List.getElem?_eq_some_iff.1 h1).1, e, h1, h2⟩
    obtain ⟨x, hx⟩ := List.getElem?_of_mem hm
    exact h.2 x j e k (List.getElem?_eq_some_iff.1 hx).1 hx h1 h3
  · exact h.1 j e k h1 h2 h3
/-- Between two pops. -/
def OMain (w wr : World) (hb bo bf q n ecap : Nat) (A : Option Addr) (es : List REd) (inn : Nat → Int) (root : Nat) (us : Nat → Value) (gk : Nat) : Prop :=
  ∃ out S D last R p pops, OQ w wr hb bo bf q n ecap A es.length out us (ofTo (es.map REd.plain) es.length) S p ∧ OPl (es.map REd.plain) n inn root out S D last R p ∧ Cov (es.map REd.plain) D R ∧ p ≤ 1 + 240 * D.length ∧ p = S.length + pops ∧ 7300 - pops ≤ gk
/-- While m is expanded. -/
def OExp (w wr : World) (hb bo bf q n ecap : Nat) (A : Option Addr) (es : List REd) (inn : Nat → Int) (root : Nat) (us : Nat → Value) (D : List Nat) (d : Int) (m qb pops : Nat) (R0 : (Nat → Nat → Prop) → Prop) (pm : Nat) : Prop :=
  ∃ out S R p, OQ w wr hb bo bf q n ecap A es.length out us (ofTo (es.map REd.plain) es.length) S p ∧ OPl (es.map REd.plain) n inn root out S (m :: D) d R p ∧ R0 R ∧ p ≤ pm ∧ p = S.length + pops ∧ out m = d ∧ wr.heap[qb]? = some (.cells #[.int .i64 d, .int .i64 m] 124 (0, 0))
section
variable {E : List K.Ed} {n root p : Nat} {inn out : Nat → Int} {S R1 : List (En K.O2)} {m : En K.O2} {D : List Nat} {last : Int} {R : Nat → Nat → Prop}
theorem OPl.perm (h : OPl E n inn root out S D last R p) (hq : S.Perm R1) : OPl E n inn root out R1 D last R p := ⟨h.oi.perm (hq.map _), fun x hx => h.hnd x (hq.symm.subset hx), by rw [← hq.length_eq]; exact h.len⟩
theorem OPl.skip (h : OPl E n inn root out S D last R p) (hq : S.Perm (m :: R1)) (hmin : ∀ x ∈ R1, bef x m = false) (hs : out m.x.node < m.x.cost) : OPl E n inn root out R1 D m.x.cost R p := by
  have h1 := h.perm hq
  have h2 := h1.len
  simp only [List.length_cons] at h2
  refine ⟨K.OI.skip (m := m.x) h1.oi (fun x hx => ?_) hs, fun x hx => h1.hnd x (List.mem_cons_of_mem _ hx), by omega⟩
  obtain ⟨y, hy, rfl⟩ := List.mem_map.1 hx
  exact bef_cost (hmin y hy)
theorem OPl.expand (h : OPl E n inn root out S D last R p) (hq : S.Perm (m :: R1)) (hmin : ∀ x ∈ R1, bef x m = false) (hs : ¬ out m.x.node < m.x.cost) : OPl E n inn root out R1 (m.x.node :: D) m.x.cost R p ∧ out m.x.node = m.x.cost ∧ m.x.node < n := by
  have h1 := h.perm hq
  have h2 := h1.len
  simp only [List.length_cons] at h2
  obtain ⟨h3, h4, h5, _⟩ := K.OI.expand (m := m.x) h1.oi (fun x hx => by
    obtain ⟨y, hy, rfl⟩ := List.mem_map.1 hx
    exact bef_cost (hmin y hy)) hs
  exact ⟨⟨h3, fun x hx => h1.hnd x (List.mem_cons_of_mem _ hx), by omega⟩, h4, h5⟩
theorem OPl.node (h : OPl E n inn root out S D last R p) (hq : S.Perm (m :: R1)) : m.x.node < n := (h.oi.cand m.x (List.mem_map.2 ⟨m, hq.symm.subset List.mem_cons_self, rfl⟩)).1
theorem OPl.no (h : OPl E n inn root out S D last R p) {j k t : Nat} {e : K.Ed} (he : E[j]? = some e) (hd : e.head ∈ D) (ht : e.tails[k]? = some t) (hl : ¬ K.oc inn e (out e.head) k < out t) : OPl E n inn root out S D last (fun a b => R a b ∨ a = j ∧ b = k) p := ⟨h.oi.no he hd ht hl, h.hnd, h.len⟩
theorem OPl.yes (hE : ∀ e ∈ E, K.OkE n e) (hin : okIn n inn) (h : OPl E n inn root out S D last R p) {j k t : Nat} {e : K.Ed} (he : E[j]? = some e) (hd : e.head ∈ D) (hx : out e.head = last) (ht : e.tails[k]? = some t) (hl : K.oc inn e (out e.head) k < out t) :
    OPl E n inn root (K.upd out t (K.oc inn e (out e.head) k)) (⟨⟨K.oc inn e (out e.head) k, t⟩, (p : Int), (p : Int)⟩ :: S) D last (fun a b => R a b ∨ a = j ∧ b = k) (p + 1) ∧ t ∉ D := by
  obtain ⟨h1, h2⟩ := h.oi.yes hE (fun i hi => (hin i hi).1) he hd hx ht hl
  refine ⟨⟨h1, fun x hx => ?_, by have := h.len; simp only [List.length_cons]; omega⟩, h2⟩
  rcases List.mem_cons.1 hx with rfl | hx
  · show (p : Int) < ((p + 1 : Nat) : Int)
    omega
  · have := h.hnd x hx
    omega
theorem OPl.start (hr : root < n) : OPl E n inn root (K.upd (fun _ => K.INF) root 0) [⟨⟨0, root⟩, 0, 0⟩] [] 0 (fun _ _ => False) 1 :=
  ⟨K.OI.start hr, fun x hx => by
    obtain rfl : x = ⟨⟨0, root⟩, 0, 0⟩ := by simpa using hx
    show (0 : Int) < ((1 : Nat) : Int)
    decide, Nat.le_refl _⟩
theorem OPl.done (hE : ∀ e ∈ E, K.OkE n e) (hin : okIn n inn) (h : OPl E n inn root out [] D last R p) (hc : Cov E D R) : K.OSol E n inn root out := K.OI.done hE (fun i hi => (hin i hi).1) h.oi hc
end
end Go.Proofs.Ytepfbhigeghjjaa.Q
namespace Go.Proofs.Ytepfbhigeghjjaa.Q
open Go.RowKit Go.Proofs.YtepfbhigeghjjaaW.PrintLast
set_option linter.unusedVariables false
set_option linter.unusedSimpArgs false

set_option maxHeartbeats 16000000 in
set_option maxRecDepth 100000 in
theorem outside72 {w : World} {n ecap bi : Nat} {A : Option Addr} {es : List REd} {inn : Nat → Int} (root : Int) (hA : EdsIn w A es) (hok : ∀ e ∈ es, e.ok n) (hn : n ≤ 30) (hm : es.length ≤ 60) (hin : okIn n inn) (hbi : w.rowIs bi 3 n (intRow inn)) :
    Calls Try.prog 72 #[.agg #[.int .i64 n, .slice A es.length ecap], .slice (some ⟨bi, 0, none⟩) n n, .int .i64 root] w (OutPost w n (es.map REd.plain) inn root) := by
  have HA := Lib.hid hA
  have HOK := Lib.hid hok
  have HIN := Lib.hid hin
  have HBI := Lib.hid hbi
  have EOK : Hid (∀ e ∈ es.map REd.plain, K.OkE n e) := edges_ok hok
  clear hA hok hin hbi
  have hmk := makeI n (by omega)
  obtain ⟨W2, hW2⟩ : ∃ W, W = (w.alloc (.cells #[.int .i64 n, .slice A es.length ecap] 48)).alloc (oI n) := ⟨_, rfl⟩
  obtain ⟨hb, hhb⟩ : ∃ b, b = w.heap.size := ⟨_, rfl⟩
  obtain ⟨bo, hbo⟩ : ∃ b, b = w.heap.size + 1 := ⟨_, rfl⟩
  have R2 : Hid (HBZ W2 hb n es.length ecap A ∧ W2.rowIs bo 3 n (intRow (fun j => if j < 0 then 1099511627776 else 0)) ∧ Below w.heap.size w W2) := by
    have B := (((Below.refl w.heap.size w).alloc (Nat.le_refl _) (.cells #[.int .i64 n, .slice A es.length ecap] 48)).alloc (by simp) (oI n))
    have s1 : (w.alloc (.cells #[.int .i64 n, .slice A es.length ecap] 48)).heap.size = w.heap.size + 1 := by simp
    have h1 := (eff_alloc _ (oI n)).heap (heap_alloc_new w (.cells #[.int .i64 n, .slice A es.length ecap] 48)) (fun h => h)
    have h2 := heap_alloc_new (w.alloc (.cells #[.int .i64 n, .slice A es.length ecap] 48)) (oI n)
    rw [s1] at h2
    rw [hW2, hhb, hbo]
    exact ⟨h1, (row_of h2).congr (fun i _ => by show _ = Value.int .i64 (if i < 0 then 1099511627776 else 0); rw [if_neg (Nat.not_lt_zero _)]), B⟩
  have HGE : Hid (w.heap.size ≤ bo) := by rw [hbo]; exact Nat.le_succ _
  have HW := Lib.hid (And.intro hW2 (And.intro hhb hbo))
  clear hW2 hhb hbo
  go_enter Try.func72, Try.ntmps72
  go_wp2_with fail
  rw [← HW.out.1, ← HW.out.2.2, ← HW.out.2.1]
  clear hmk
  go_loopg [26] n (fun gk si wr => ∃ i : Nat, si = .int .i64 i ∧ i ≤ n ∧ n - i ≤ gk ∧ Hid (HBZ wr hb n es.length ecap A ∧ wr.rowIs bo 3 n (intRow (fun j => if j < i then 1099511627776 else 0)) ∧ Below w.heap.size w wr))
  case atStart => exact ⟨0, rfl, by omega, by omega, R2.out⟩
  case round =>
    clear R2 HW
    obtain ⟨i, rfl, hi, hk, HR0⟩ := hrel
    by_cases hlt : i < n
    · skip
      have HR := HR0
      clear HR0
      as_aux_lemma =>
        have hlz : (i : Int) < (n : Int) := by omega
        obtain ⟨o, ho⟩ : ∃ x, (if i < i then (1099511627776 : Int) else 0) = x := ⟨_, rfl⟩
        have x3 : wr.cell? ⟨bo, i, none⟩ = some (.int .i64 o) := by rw [← ho]; exact HR.out.2.1.cell hlt
        have x4 : wr.frozen? ⟨bo, i, none⟩ = false := HR.out.2.1.frozen i
        have he6 : Eff (fun k => k = bo) wr (wr.setCell ⟨bo, i, none⟩ (.int .i64 1099511627776)) := eff_setCell wr bo i _
        have S6 : Hid (HBZ (wr.setCell ⟨bo, i, none⟩ (.int .i64 1099511627776)) hb n es.length ecap A ∧ (wr.setCell ⟨bo, i, none⟩ (.int .i64 1099511627776)).rowIs bo 3 n (intRow (fun j => if j < i + 1 then 1099511627776 else 0)) ∧ Below w.heap.size w (wr.setCell ⟨bo, i, none⟩ (.int .i64 1099511627776))) := by
          obtain ⟨c1, k1, _⟩ := HR.out.2.1
          have hh : wr.heap[hb]? = _ := HR.out.1
          refine ⟨he6.heap HR.out.1 (ne_of_type hh k1 (by decide)), (HR.out.2.1.set i (.int .i64 1099511627776)).congr (fun j _ => ?_), HR.out.2.2.trans (he6.belowB HR.out.2.2.size (fun k hk => by rw [hk]; exact HGE.out))⟩
          show (if j = i then Value.int .i64 1099511627776 else Value.int .i64 (if j < i then 1099511627776 else 0)) = Value.int .i64 (if j < i + 1 then 1099511627776 else 0)
          by_cases hji : j = i
          · rw [if_pos hji, if_pos (by omega)]
          · rw [if_neg hji]
            by_cases hj : j < i
            · rw [if_pos hj, if_pos (by omega)]
            · rw [if_neg hj, if_neg (by omega)]
        clear ho he6
        go_wp2_with fail
        go_roundg (n - (i + 1))
        case measure => omega
        case rel => exact ⟨i + 1, by go_num, by omega, by omega, S6.out⟩

    · have hlz : ¬ (i : Int) < (n : Int) := by omega
      obtain rfl : n = i := by omega
      clear hlt hi hk
      have HR : Hid (HBZ wr hb n es.length ecap A ∧ wr.rowIs bo 3 n (intRow (fun _ => 1099511627776)) ∧ Below w.heap.size w wr) := ⟨HR0.out.1, HR0.out.2.1.congr (fun j hj => by show Value.int .i64 (if j < n then 1099511627776 else 0) = _; rw [if_pos hj]; rfl), HR0.out.2.2⟩
      clear HR0
      obtain ⟨y0, y1⟩ := HR.out.1.c
      by_cases hr0 : root < 0
      · skip
        go_wp2_with fail
        go_ret
        exact ⟨bo, fun _ => 1099511627776, rfl, ⟨fun h => by omega, fun _ _ _ => rfl⟩, HR.out.2.1, HR.out.2.2, HGE.out⟩

      by_cases hr1 : (n : Int) ≤ root
      · skip
        go_wp2_with fail
        go_ret
        exact ⟨bo, fun _ => 1099511627776, rfl, ⟨fun h => by omega, fun _ _ _ => rfl⟩, HR.out.2.1, HR.out.2.2, HGE.out⟩

      obtain ⟨root, rfl⟩ : ∃ r : Nat, root = r := ⟨root.toNat, (Int.toNat_of_nonneg (by omega)).symm⟩
      have hrt : root < n := by omega
      have hrz : (root : Int) < (n : Int) := by omega
      have hmu := makeU n (by omega)
      obtain ⟨W3, hW3⟩ : ∃ W, W = wr.alloc (oU n) := ⟨_, rfl⟩
      obtain ⟨bf, hbf⟩ : ∃ b, b = wr.heap.size := ⟨_, rfl⟩
      have B3 : Below wr.heap.size wr W3 := by rw [hW3]; exact (Below.refl _ _).alloc (Nat.le_refl _) _
      have U3 : W3.rowIs bf 22 n (fun _ => .slice none 0 0) := by rw [hW3, hbf]; exact row_of (heap_alloc_new wr (oU n))
      have R3 : Hid (OSt w W3 hb bo bf n ecap A es.length (fun _ => 1099511627776) (fun _ => .slice none 0 0) (ofTo (es.map REd.plain) 0)) :=
        ⟨HR.out.1.bel B3, row_below HR.out.2.1 B3, ⟨U3, fun t ht => ⟨by simp, .inl ⟨rfl, rfl⟩⟩, fun _ _ => by simp [Value.ownBlock], fun _ _ => by simp [Value.ownBlock], fun _ _ _ _ _ _ h => by simp [Value.ownBlock] at h⟩, HR.out.2.2.trans (B3.mono HR.out.2.2.size), HGE.out, by rw [hbf]; exact HR.out.2.2.size⟩
      have y2 : (wr.alloc (oU n)).cell? ⟨hb, 1, none⟩ = some (.slice A es.length ecap) := by rw [← hW3]; exact (HR.out.1.bel B3).c.2
      have HW3 := Lib.hid (And.intro hW3 hbf)
      clear HR hW3 hbf B3 U3
      go_wp2_with fail
      rw [← HW3.out.1, ← HW3.out.2]
      clear y0 y1 y2 hmu HW3
      go_loopg [48] es.length (fun gk si wr => ∃ k : Nat, si = .int .i64 k ∧ k ≤ es.length ∧ es.length - k ≤ gk ∧ Hid (∃ us, OSt w wr hb bo bf n ecap A es.length (fun _ => 1099511627776) us (ofTo (es.map REd.plain) k)))
      case atStart => exact ⟨0, rfl, by omega, by omega, _, R3.out⟩
      case round =>
        clear R3
        obtain ⟨k, rfl, hi, hk, HR⟩ := hrel
        by_cases hlt : k < es.length
        · skip
          as_aux_lemma =>
            have hlz : (k : Int) < (es.length : Int) := by omega
            obtain ⟨us, k1⟩ := HR.out
            obtain ⟨e, he⟩ : ∃ e, es[k]? = some e := ⟨_, List.getElem?_eq_getElem hlt⟩
            have hok := HOK.out e (List.mem_of_getElem? he)
            have HEK : Hid ((es.map REd.plain)[k]? = some e.plain) := by show _ = _; rw [List.getElem?_map, he]; rfl
            obtain ⟨eb0, eo, rfl, z0, z1, z2, z3, z4⟩ := HA.out.c k1.below he
            obtain ⟨hn', hhn⟩ : ∃ x, e.head.toNat = x := ⟨_, rfl⟩
            have hhe : e.head = (hn' : Int) := by rw [← hhn, Int.toNat_of_nonneg hok.1]
            have hhl : hn' < n := by have := hok.2.1; omega
            have hph : e.plain.head = hn' := hhn
            obtain ⟨uA, uc, hus⟩ := own_slice (k1.use.at_ hn' hhl)
            obtain ⟨ul, hul⟩ : ∃ x, (ofTo (es.map REd.plain) k hn').length = x := ⟨_, rfl⟩
            rw [hul] at hus
            have hulb : ul ≤ 100000 := by have := ofTo_len (es.map REd.plain) k hn'; omega
            obtain ⟨W2, hW2⟩ : ∃ W, W = wr.alloc (.cells #[.int .i64 e.head, .slice e.A e.tails.length e.cap, .int .i64 e.cost, .int .i64 e.l0, .int .i64 e.l1] 60) := ⟨_, rfl⟩
            obtain ⟨xb, hxb⟩ : ∃ b, b = wr.heap.size := ⟨_, rfl⟩
            have B2 : Below wr.heap.size wr W2 := by rw [hW2]; exact (Below.refl _ _).alloc (Nat.le_refl _) _
            have X2 : EBX W2 xb e := by show W2.heap[xb]? = _; rw [hW2, hxb]; exact heap_alloc_new wr _
            have k2 := k1.bel B2
            have u1 : W2.cell? ⟨bf, hn', none⟩ = some (.slice uA ul uc) := by rw [← hus]; exact k2.use.row.cell hhl
            have EX : Eff (fun _ => False) W2 (W2.alloc (.cells #[.int .i64 k] 3)).drew := ((Eff.refl _ W2).alloc _).drew
            have hrow := ownsRow_keep (W' := (W2.alloc (.cells #[.int .i64 k] 3)).drew) (k2.use.at_ hn' hhl) (fun b o hb hh => EX.heap hh (fun h => h))
            obtain ⟨i0, hi0, hz0, hz1, hz2⟩ := info_parts (show (Try.prog.info? 3).map (fun i => (i.zero, i.size, i.bytes)) = some (some (.int .i64 0), 1, 8) from by kernel_rfl)
            obtain ⟨v1, w6, hr6, ho6, hg6, _, ha6⟩ := run_append_own_at (P := Try.prog) (W2.alloc (.cells #[.int .i64 k] 3)).drew w.heap.size 22 22 3 i0 (.int .i64 0) 1 8 Try.underlying22 hi0 hz0 hz1 hz2 rfl (by decide) _ _ _ hrow
              ⟨W2.heap.size, 0, none⟩ 1 1 [.int .i64 k] rfl (fun j u hu => by rw [Addr.add_mid]; exact box_range (L := [.int .i64 k]) (heap_alloc_new W2 _) 0 _ (fun j v h => by rw [Nat.zero_add]; exact h) j u hu) (fun u hu => by simp at hu; subst hu; rfl) (by rw [hul]; simp only [maxLen]; omega) (by rw [hul]; omega) (by have := k2.below.size; simp; omega)
            obtain ⟨K6, hkeep⟩ := k2.append hhl k EX ho6 (Eff.of_grown hg6) ha6
            obtain ⟨A6, n6, k6, hv6⟩ : ∃ A n c, v1 = .slice A n c := by
              rcases ho6.2 with ⟨h, _⟩ | ⟨_, _, _, h, _⟩
              · exact ⟨_, _, _, h⟩
              · exact ⟨_, _, _, h⟩
            subst hv6
            rw [hus] at hr6
            have X6 : EBX w6 xb e := hkeep X2 (by decide)
            obtain ⟨cf, kf, _⟩ := k2.use.row
            have hb6 : ∃ c, w6.heap[bf]? = some (.cells c 22 (0, 0)) ∧ w6.cell? ⟨bf, hn', none⟩ = some (.slice uA ul uc) := by
              have h1 := hkeep kf (by decide)
              refine ⟨_, h1, ?_⟩
              have h2 : W2.cell? ⟨bf, hn', none⟩ = some (.slice uA ul uc) := u1
              simp only [World.cell?, kf] at h2
              simp only [World.cell?, h1]
              exact h2
            have x0 : W2.cell? ⟨xb, 0, none⟩ = some (.int .i64 hn') := by rw [← hhe]; exact X2.c.1
            have AP := Lib.hid hr6
            have K0 : Hid (w6.cell? ⟨xb, 0, none⟩ = some (.int .i64 hn')) := by show _ = _; rw [← hhe]; exact X6.c.1
            have K1 : Hid (w6.cell? ⟨bf, hn', none⟩ = some (.slice uA ul uc)) := hb6.choose_spec.2
            have F1 : Hid (w6.frozen? ⟨bf, hn', none⟩ = false) := frozen_blk hb6.choose_spec.1 hn'
            have KK := Lib.hid (And.intro K6 hph)
            have HW2 := Lib.hid (And.intro hW2 hxb)
            have HL := Lib.hid hulb
            clear HR k1 he hok hhn hhe hus hul hulb hW2 hxb B2 X2 k2 EX hrow hi0 hz0 hz1 hz2 hr6 ho6 hg6 ha6 K6 hkeep X6 kf hb6 hph
            go_wp2_with fail
            rw [← HW2.out.1, ← HW2.out.2]
            have hlh : (hn' : Int) < (n : Int) := by omega
            refine out_r13 (fun _ _ _ _ _ h => h) hlh x0 u1 AP K0 K1 F1 ?_
            intro t53 t54 t55 t56 t57 t58 t59 t60 t61 t62 t63 t64
            clear x0 u1 AP K0 K1 F1 z0 z1 z2 z3 z4 HW2
            go_wp2_with fail
            go_roundg (es.length - (k + 1))
            case measure => omega
            case rel =>
              refine ⟨k + 1, by go_num, by omega, by omega, _, KK.out.1.congr (fun _ _ => rfl) (fun t _ => ?_)⟩
              rw [ofTo_next HEK.out, KK.out.2]
              by_cases h8 : t = hn'
              · subst h8
                rw [K.upd_self, if_pos rfl]
              · rw [K.upd_ne _ _ h8, if_neg h8]

        · have hlz : ¬ (k : Int) < (es.length : Int) := by omega
          obtain rfl : es.length = k := by omega
          clear hi hk
          as_aux_lemma =>
            obtain ⟨us, k4⟩ := HR.out
            have y2 := k4.out.frozen root
            have K4 := Lib.hid k4
            clear HR k4 hlt y2
            go_wp2_with fail
            refine (newA_O (B := w.heap.size) _ K4.out.below.size).mono ?_
            rintro r w5 ⟨q, rfl, q5, b5⟩
            have k5 : OQ w w5 hb bo bf q n ecap A es.length (fun _ => 1099511627776) us (ofTo (es.map REd.plain) es.length) [] 0 := ⟨K4.out.bel b5, q5⟩
            have k6 := k5.setOut root 0
            have x1 : w5.cell? ⟨bo, root, none⟩ = some (.int .i64 1099511627776) := k5.st.out.cell hrt
            have x2 : w5.frozen? ⟨bo, root, none⟩ = false := k5.st.out.frozen root
            have CP : Hid (Calls Try.prog 92 #[.pointer (some ⟨q, 0, none⟩), .agg #[.int .i64 0, .int .i64 root]] (w5.setCell ⟨bo, root, none⟩ (.int .i64 0)) (PushA 138 140 lessO w.heap.size (w5.setCell ⟨bo, root, none⟩ (.int .i64 0)) q ([] : List (En K.O2)) 0 0 ⟨0, root⟩)) :=
              pushA_O k6.q (fun e he => by cases he) (by decide) (by decide) (by decide) (by decide) (by show 0 < 1000000000; decide) ⟨0, root⟩
            have K6 := Lib.hid k6
            clear K4 q5 b5 k5 k6
            go_wp2_with fail
            with_reducible refine CP.out.mono ?_
            rintro r w7 ⟨rfl, q7, e7⟩
            have HI : Hid (OMain w w7 hb bo bf q n ecap A es inn root us 7300) := ⟨_, _, [], 0, _, 1, 0, ⟨K6.out.st.effT e7, q7⟩, OPl.start hrt, (fun j e k _ h _ => by cases h), by simp, rfl, Nat.le_refl _⟩
            clear x1 x2 CP K6 q7 e7
            go_wp2_with fail
            go_loopg [] 7300 (fun gk wr => Hid (OMain w wr hb bo bf q n ecap A es inn root us gk))
            case atStart => exact HI
            case round =>
              clear HI
              have HR := hrel
              clear hrel
              obtain ⟨out, S, D, last, R, p, pops, k7, p7, cv, hp, hpp, hgk⟩ := HR.out
              have hcnt := p7.oi.count
              by_cases hS : S ≠ []
              · skip
                as_aux_lemma =>
                  have CP := Lib.hid (popA_O k7.q hS (by have := p7.len; omega))
                  have HK := Lib.hid (And.intro k7 (And.intro p7 cv))
                  clear HR k7 p7 cv hS
                  go_wp2_with fail
                  with_reducible refine CP.out.mono ?_
                  rintro r w2 ⟨m1, R1, rfl, hq1, hmin1, q2, e2⟩
                  have hnd : m1.x.node < n := HK.out.2.1.node hq1
                  obtain ⟨nd, hnd'⟩ : ∃ x, m1.x.node = x := ⟨_, rfl⟩
                  obtain ⟨d, hd'⟩ : ∃ x, m1.x.cost = x := ⟨_, rfl⟩
                  rw [hnd'] at hnd
                  have HC := Lib.hid (show (Cells.cs m1.x).toArray = #[.int .i64 d, .int .i64 nd] from by rw [← hd', ← hnd']; rfl)
                  rw [HC.out]
                  obtain ⟨W3, hW3⟩ : ∃ W, W = w2.alloc (.cells #[.int .i64 d, .int .i64 nd] 124) := ⟨_, rfl⟩
                  obtain ⟨qb, hqb⟩ : ∃ c, c = w2.heap.size := ⟨_, rfl⟩
                  have B3 : Below w2.heap.size w2 W3 := by rw [hW3]; exact (Below.refl _ _).alloc (Nat.le_refl _) _
                  have C3 : Hid (W3.heap[qb]? = some (.cells #[.int .i64 d, .int .i64 nd] 124 (0, 0))) := by show _ = _; rw [hW3, hqb]; exact heap_alloc_new w2 _
                  have K3 : Hid (OQ w W3 hb bo bf q n ecap A es.length out us (ofTo (es.map REd.plain) es.length) R1 p) := (OQ.mk (HK.out.1.st.effT e2) q2).bel B3
                  have hlen := hq1.length_eq
                  simp only [List.length_cons] at hlen
                  have HM := Lib.hid (And.intro hq1 (And.intro hmin1 (And.intro hd' hnd')))
                  have HW3 := Lib.hid (And.intro hW3 hqb)
                  clear hq1 hmin1 q2 e2 hd' hnd' hW3 hqb B3 CP
                  go_wp2_with fail
                  rw [← HW3.out.1, ← HW3.out.2]
                  have x0 : W3.cell? ⟨qb, 0, none⟩ = some (.int .i64 d) := by simp only [World.cell?, C3.out]; rfl
                  have x1 : W3.cell? ⟨qb, 1, none⟩ = some (.int .i64 nd) := by simp only [World.cell?, C3.out]; rfl
                  have hnz : (nd : Int) < (n : Int) := by omega
                  obtain ⟨o, ho⟩ : ∃ x, out nd = x := ⟨_, rfl⟩
                  have b0 : W3.cell? ⟨bo, nd, none⟩ = some (.int .i64 o) := by rw [← ho]; exact K3.out.st.out.cell hnd
                  by_cases hst : o < d
                  · have g1 : decide (o < d) = true := decide_eq_true hst
                    have PP := Lib.hid (HK.out.2.1.skip HM.out.1 HM.out.2.1 (by rw [HM.out.2.2.1, HM.out.2.2.2, ho]; exact hst))
                    rw [HM.out.2.2.1] at PP
                    clear ho
                    go_quiet (fail)
                    go_wp2_with fail
                    go_roundg (7300 - (pops + 1))
                    case measure => omega
                    case rel => exact ⟨out, R1, D, _, R, p, pops + 1, K3.out.bel (below_drewN (Below.refl _ _) nq), PP.out, HK.out.2.2, hp, by omega, Nat.le_refl _⟩
                  · have g1 : decide (o < d) = false := decide_eq_false hst
                    have PP := Lib.hid (HK.out.2.1.expand HM.out.1 HM.out.2.1 (by rw [HM.out.2.2.1, HM.out.2.2.2, ho]; exact hst))
                    rw [HM.out.2.2.1, HM.out.2.2.2] at PP
                    obtain ⟨uA, uc, hus⟩ := own_slice (K3.out.st.use.at_ nd hnd)
                    obtain ⟨ul, hul⟩ : ∃ x, (ofTo (es.map REd.plain) es.length nd).length = x := ⟨_, rfl⟩
                    rw [hul] at hus
                    have u1 : W3.cell? ⟨bf, nd, none⟩ = some (.slice uA ul uc) := by rw [← hus]; exact K3.out.st.use.row.cell hnd
                    have hulb : ul ≤ 60 := by have := ofTo_len (es.map REd.plain) es.length nd; omega
                    have HU := Lib.hid (And.intro hus hul)
                    clear ho hus hul
                    go_quiet (fail)
                    go_wp2_with fail
                    have HI : Hid (OExp w (W3.drewN nq) hb bo bf q n ecap A es inn root us D d nd qb (pops + 1) (fun R => CovL (es.map REd.plain) D R (ofTo (es.map REd.plain) es.length nd) 0) (1 + 240 * D.length + 4 * 0)) := ⟨out, R1, R, p, K3.out.bel (below_drewN (Below.refl _ _) nq), PP.out.1, CovL.start HK.out.2.2, by omega, by omega, PP.out.2.1, below_heap (below_drewN (Below.refl _ _) nq) C3.out⟩
                    clear x0 x1 b0 g1 hst PP u1 K3 C3 HK HM
                    go_loopg [96] ul (fun gk s96 wr => ∃ a : Nat, s96 = .int .i64 a ∧ a ≤ ul ∧ ul - a ≤ gk ∧ Hid (OExp w wr hb bo bf q n ecap A es inn root us D d nd qb (pops + 1) (fun R => CovL (es.map REd.plain) D R (ofTo (es.map REd.plain) es.length nd) a) (1 + 240 * D.length + 4 * a)))
                    case atStart => exact ⟨0, rfl, by omega, by omega, HI.out⟩
                    case round =>
                      clear HI
                      obtain ⟨a, rfl, ha, hka, HR⟩ := hrel
                      by_cases hlt : a < ul
                      · skip
                        as_aux_lemma =>
                          obtain ⟨out1, S1, R2, p1, k1, j2, j3, j4, j5, j6, j7⟩ := HR.out
                          have hlz : (a : Int) < (ul : Int) := by omega
                          obtain ⟨k, hk'⟩ : ∃ k, (ofTo (es.map REd.plain) es.length nd)[a]? = some k := ⟨_, List.getElem?_eq_getElem (by rw [HU.out.2]; exact hlt)⟩
                          obtain ⟨ub, rfl⟩ := k1.st.addr hnd hk' HU.out.1
                          have z5 := k1.st.at_ hnd hk' HU.out.1
                          obtain ⟨_, e', he', hhd⟩ := ofTo_mem.1 (List.mem_of_getElem? hk')
                          obtain ⟨e, he, rfl⟩ : ∃ e, es[k]? = some e ∧ e.plain = e' := by
                            rw [List.getElem?_map] at he'
                            exact Option.map_eq_some_iff.1 he'
                          have hkl : k < es.length := (List.getElem?_eq_some_iff.1 he).1
                          have hkz : (k : Int) < (es.length : Int) := by omega
                          have hok := HOK.out e (List.mem_of_getElem? he)
                          have HTL0 := HA.out.tails e (List.mem_of_getElem? he)
                          obtain ⟨eb0, eo, hAe, z0, z1, z2, z3, z4⟩ := HA.out.c k1.st.below he
                          have y1 : wr.cell? ⟨hb, 1, none⟩ = some (.slice (some ⟨eb0, eo, none⟩) es.length ecap) := by rw [← hAe]; exact k1.st.hdr.c.2
                          obtain ⟨W2, hW2⟩ : ∃ W, W = wr.alloc (.cells #[.int .i64 e.head, .slice e.A e.tails.length e.cap, .int .i64 e.cost, .int .i64 e.l0, .int .i64 e.l1] 60) := ⟨_, rfl⟩
                          obtain ⟨xb, hxb⟩ : ∃ b, b = wr.heap.size := ⟨_, rfl⟩
                          have B2 : Below wr.heap.size wr W2 := by rw [hW2]; exact (Below.refl _ _).alloc (Nat.le_refl _) _
                          have X2 : EBX W2 xb e := by show W2.heap[xb]? = _; rw [hW2, hxb]; exact heap_alloc_new wr _
                          have x1 := X2.c.2.1
                          have htl : e.tails.length ≤ 4 := hok.2.2.2.2.2
                          have HI : Hid (OExp w W2 hb bo bf q n ecap A es inn root us D d nd qb (pops + 1) (fun R => CovL (es.map REd.plain) D R (ofTo (es.map REd.plain) es.length nd) a ∧ ∀ b, b < 0 → R k b) (1 + 240 * D.length + 4 * a + 0) ∧ EBX W2 xb e) := ⟨⟨out1, S1, R2, p1, k1.bel B2, j2, ⟨j3, fun b hb => absurd hb (Nat.not_lt_zero b)⟩, j4, j5, j6, below_heap B2 j7⟩, X2⟩
                          have HW2 := Lib.hid (And.intro hW2 hxb)
                          have HEE := Lib.hid (And.intro hk' (And.intro he' (And.intro hhd (And.intro hok (And.intro HTL0 hAe)))))
                          have HE := Lib.hid he
                          clear HR k1 j2 j3 j4 j5 j6 j7 hk' he' hhd he hok HTL0 hAe hW2 hxb B2 X2
                          rw [show W2 = wr.alloc (.cells #[.int .i64 e.head, .slice e.A e.tails.length e.cap, .int .i64 e.cost, .int .i64 e.l0, .int .i64 e.l1] 60) from HW2.out.1, show xb = wr.heap.size from HW2.out.2] at x1
                          go_wp2_with fail
                          rw [← HW2.out.1, ← HW2.out.2]
                          clear x1 y1 z0 z1 z2 z3 z4 z5 HW2
                          go_loopg [108] e.tails.length (fun gk s108 wr => ∃ b : Nat, s108 = .int .i64 b ∧ b ≤ e.tails.length ∧ e.tails.length - b ≤ gk ∧ Hid (OExp w wr hb bo bf q n ecap A es inn root us D d nd qb (pops + 1) (fun R => CovL (es.map REd.plain) D R (ofTo (es.map REd.plain) es.length nd) a ∧ ∀ x, x < b → R k x) (1 + 240 * D.length + 4 * a + b) ∧ EBX wr xb e))
                          case atStart => exact ⟨0, rfl, by omega, by omega, HI.out⟩
                          case round =>
                            clear HI
                            obtain ⟨b, rfl, hb4, hkb, HR⟩ := hrel
                            by_cases hlt3 : b < e.tails.length
                            · skip
                              as_aux_lemma =>
                                obtain ⟨⟨out1, S1, R2, p1, k1, j2, ⟨j3, j3'⟩, j4, j5, j6, j7⟩, j8⟩ := HR.out
                                have hlz3 : (b : Int) < (e.tails.length : Int) := by omega
                                obtain ⟨t, ht⟩ : ∃ t, e.tails[b]? = some t := ⟨_, List.getElem?_eq_getElem hlt3⟩
                                have ht2 := HEE.out.2.2.2.1.2.2.1 t (List.mem_of_getElem? ht)
                                obtain ⟨tn, rfl⟩ : ∃ tn : Nat, t = tn := ⟨t.toNat, (Int.toNat_of_nonneg ht2.1).symm⟩
                                have htn : tn < n := by omega
                                obtain ⟨tb, tof, htA, ct⟩ := HEE.out.2.2.2.2.1.c k1.st.below ht
                                have hpt : e.plain.tails[b]? = some tn := by show (e.tails.map Int.toNat)[b]? = _; rw [List.getElem?_map, ht]; rfl
                                have Q0 : wr.cell? ⟨qb, 0, none⟩ = some (.int .i64 d) := by simp only [World.cell?, j7]; rfl
                                have X2 : wr.cell? ⟨xb, 2, none⟩ = some (.int .i64 e.cost) := j8.c.2.2.1
                                have XR : wr.rangeAt xb 0 [.int .i64 e.head, .slice e.A e.tails.length e.cap, .int .i64 e.cost, .int .i64 e.l0, .int .i64 e.l1] := box_range (L := [.int .i64 e.head, .slice e.A e.tails.length e.cap, .int .i64 e.cost, .int .i64 e.l0, .int .i64 e.l1]) j8 0 _ (fun j v h => by rw [Nat.zero_add]; exact h)
                                obtain ⟨m1, hm1⟩ : ∃ x, min (K.oth inn e.plain.tails 0 (b : Int)) 1099511627776 = x := ⟨_, rfl⟩
                                obtain ⟨c, hc⟩ : ∃ x, K.oc inn e.plain d (b : Int) = x := ⟨_, rfl⟩
                                have C86 : Hid (∀ W : World, Below wr.heap.size wr W → Calls Try.prog 86 #[.agg #[.int .i64 e.head, .slice e.A e.tails.length e.cap, .int .i64 e.cost, .int .i64 e.l0, .int .i64 e.l1], .slice (some ⟨bi, 0, none⟩) n n, .int .i64 b] W fun r w' => r = .returned (.int .i64 m1) ∧ Below W.heap.size W w') := fun W hW => by
                                  have h1 := others86 (w := W) (n := n) (bi := bi) (inn := inn) e (b : Int) (fun q y hy => by
                                    obtain ⟨b', o', hA', hc'⟩ := HEE.out.2.2.2.2.1.c (k1.st.below.trans (hW.mono k1.st.below.size)) hy
                                    exact ⟨b', o', hA', hc'⟩) (row_below HBI.out (k1.st.below.trans (hW.mono k1.st.below.size))) HEE.out.2.2.2.1 HIN.out
                                  rw [hm1] at h1
                                  exact h1
                                have hd0 : 0 ≤ d ∧ d ≤ 1099511627776 := by have := j2.oi.ro.ok nd hnd; rw [j6] at this; exact this
                                have hco := HEE.out.2.2.2.1.2.2.2
                                have hon := K.oth_nn (inn := inn) (b : Int) e.plain.tails 0 (fun t ht => by
                                  obtain ⟨t0, h0, rfl⟩ := List.mem_map.1 ht
                                  have := HEE.out.2.2.2.1.2.2.1 t0 h0
                                  exact (HIN.out _ (by omega)).1)
                                have hI : K.INF = 1099511627776 := rfl
                                have hcc : satS [d, e.cost, m1] = c := by
                                  rw [satS_three hd0.1 hco.1 (by rw [← hm1]; omega), ← hc, ← hm1]
                                  unfold K.oc
                                  have : e.plain.cost = e.cost := rfl
                                  omega
                                have C75 : Hid (∀ W : World, Calls Try.prog 75 #[.slice (some ⟨W.heap.size, 0, none⟩) 3 3] (W.alloc (.cells #[.int .i64 d, .int .i64 e.cost, .int .i64 m1] 3)) fun r w' => r = .returned (.int .i64 c) ∧ Below (W.alloc (.cells #[.int .i64 d, .int .i64 e.cost, .int .i64 m1] 3)).heap.size (W.alloc (.cells #[.int .i64 d, .int .i64 e.cost, .int .i64 m1] 3)) w') := fun W => by
                                  have h1 := sum75 (w := W.alloc (.cells #[.int .i64 d, .int .i64 e.cost, .int .i64 m1] 3)) (A := some ⟨W.heap.size, 0, none⟩) (cap := 3) [d, e.cost, m1] (fun q y hy => by
                                    have hq : q < 3 := (List.getElem?_eq_some_iff.1 hy).1
                                    refine ⟨_, _, rfl, ?_⟩
                                    exact box_range (L := [.int .i64 d, .int .i64 e.cost, .int .i64 m1]) (heap_alloc_new W (.cells #[.int .i64 d, .int .i64 e.cost, .int .i64 m1] 3)) 0 _ (fun j v h => by rw [Nat.zero_add]; exact h) q (.int .i64 y) (by
                                      have : q = 0 ∨ q = 1 ∨ q = 2 := by omega
                                      rcases this with rfl | rfl | rfl <;> (cases hy; rfl))) (fun x hx => by
                                    simp only [List.mem_cons, List.not_mem_nil, or_false] at hx
                                    rcases hx with rfl | rfl | rfl
                                    · exact hd0
                                    · omega
                                    · rw [← hm1]; omega) (by show 3 ≤ 1000; decide)
                                  rw [hcc] at h1
                                  exact h1
                                have HP := Lib.hid (And.intro k1 (And.intro j2 (And.intro j3 (And.intro j3' (And.intro j6 (And.intro j7 (And.intro j8 (And.intro hpt hc))))))))
                                have HTA := Lib.hid htA
                                have y1 : wr.cell? ⟨xb, 1, none⟩ = some (.slice (some ⟨tb, tof, none⟩) e.tails.length e.cap) := by rw [← htA]; exact j8.c.2.1
                                have HX := Lib.hid (And.intro Q0 (And.intro X2 XR))
                                rw [htA]
                                clear HR k1 j2 j3 j3' j6 j7 j8 ht ht2 hpt hm1 hc hco hon hI hcc htA Q0 X2 XR hd0
                                go_wp2_with fail
                                refine out_r29 (fun _ _ _ _ _ h => h) HX.out.1 HX.out.2.1 HX.out.2.2 C86 C75 ?_
                                intro w8 b8 t113 t114 t115 t116 t117 t118 t119 t120 t121 t122
                                have K8 := HP.out.1.bel b8
                                have X8 : w8.heap[xb]? = _ := (EBX.bel HP.out.2.2.2.2.2.2.1 b8)
                                have Q8 := below_heap b8 HP.out.2.2.2.2.2.1
                                obtain ⟨o, ho⟩ : ∃ x, out1 tn = x := ⟨_, rfl⟩
                                have x1 : w8.cell? ⟨bo, tn, none⟩ = some (.int .i64 o) := by rw [← ho]; exact K8.st.out.cell htn
                                have x2 : w8.frozen? ⟨bo, tn, none⟩ = false := K8.st.out.frozen tn
                                have hnz' : (tn : Int) < (n : Int) := by omega
                                have hhe : out1 e.plain.head = d := by rw [HEE.out.2.2.1]; exact HP.out.2.2.2.2.1
                                have hmem : e.plain.head ∈ nd :: D := by rw [HEE.out.2.2.1]; exact List.mem_cons_self
                                have hlen := HP.out.2.1.len
                                by_cases hco : c < o
                                · have PY := Lib.hid (HP.out.2.1.yes EOK.out HIN.out HEE.out.2.1 hmem hhe HP.out.2.2.2.2.2.2.2.1 (by rw [hhe, HP.out.2.2.2.2.2.2.2.2, ho]; exact hco))
                                  rw [hhe, HP.out.2.2.2.2.2.2.2.2] at PY
                                  have k9 := K8.setOut tn c
                                  have CP : Hid (Calls Try.prog 92 #[.pointer (some ⟨q, 0, none⟩), .agg #[.int .i64 c, .int .i64 tn]] (w8.setCell ⟨bo, tn, none⟩ (.int .i64 c)) (PushA 138 140 lessO w.heap.size (w8.setCell ⟨bo, tn, none⟩ (.int .i64 c)) q S1 (p1 : Int) (p1 : Int) ⟨c, tn⟩)) :=
                                    pushA_O k9.q (fun e he => by have := HP.out.2.1.hnd e he; omega) (by omega) (by omega) (by omega) (by omega) (by omega) ⟨c, tn⟩
                                  have X9 := K8.keep (i := tn) (x := .int .i64 c) X8 (by decide)
                                  have Q9 := K8.keep (i := tn) (x := .int .i64 c) Q8 (by decide)
                                  have K9 := Lib.hid (And.intro k9 (And.intro X9 Q9))
                                  clear HX C86 C75 b8 K8 X8 Q8 ho hhe hmem k9 X9 Q9 ct y1
                                  go_wp2_with fail
                                  with_reducible refine CP.out.mono ?_
                                  rintro r w9 ⟨rfl, q9, e9⟩
                                  have N9 : Hid (OExp w w9 hb bo bf q n ecap A es inn root us D d nd qb (pops + 1) (fun R => CovL (es.map REd.plain) D R (ofTo (es.map REd.plain) es.length nd) a ∧ ∀ x, x < b + 1 → R k x) (1 + 240 * D.length + 4 * a + (b + 1)) ∧ EBX w9 xb e) := by
                                    refine ⟨⟨_, _, _, p1 + 1, ⟨K9.out.1.st.effT e9, q9⟩, PY.out.1, ⟨HP.out.2.2.1.mono (fun _ _ h => .inl h), fun x hx => ?_⟩, by omega, by simp only [List.length_cons]; omega, ?_, e9.blk _ _ _ _ K9.out.2.2 (by decide) (by decide)⟩, e9.blk _ _ _ _ K9.out.2.1 (by decide) (by decide)⟩
                                    · by_cases hxb : x = b
                                      · exact .inr ⟨rfl, hxb⟩
                                      · exact .inl (HP.out.2.2.2.1 x (by omega))
                                    · rw [K.upd_ne _ _ (fun e => PY.out.2 (by rw [← e]; exact List.mem_cons_self))]
                                      exact HP.out.2.2.2.2.1
                                  clear q9 e9 CP K9 PY
                                  go_wp2_with fail
                                  rw [← HTA.out]
                                  go_roundg (e.tails.length - (b + 1))
                                  case measure => omega
                                  case rel => exact ⟨b + 1, by go_num, by omega, by omega, N9.out⟩
                                · have PN := Lib.hid (HP.out.2.1.no HEE.out.2.1 hmem HP.out.2.2.2.2.2.2.2.1 (by rw [hhe, HP.out.2.2.2.2.2.2.2.2, ho]; exact hco))
                                  have N9 : Hid (OExp w w8 hb bo bf q n ecap A es inn root us D d nd qb (pops + 1) (fun R => CovL (es.map REd.plain) D R (ofTo (es.map REd.plain) es.length nd) a ∧ ∀ x, x < b + 1 → R k x) (1 + 240 * D.length + 4 * a + (b + 1)) ∧ EBX w8 xb e) := by
                                    refine ⟨⟨_, _, _, p1, K8, PN.out, ⟨HP.out.2.2.1.mono (fun _ _ h => .inl h), fun x hx => ?_⟩, by omega, j5, HP.out.2.2.2.2.1, Q8⟩, X8⟩
                                    by_cases hxb : x = b
                                    · exact .inr ⟨rfl, hxb⟩
                                    · exact .inl (HP.out.2.2.2.1 x (by omega))
                                  clear HX C86 C75 b8 K8 X8 Q8 ho hhe hmem PN ct y1
                                  go_wp2_with fail
                                  rw [← HTA.out]
                                  go_roundg (e.tails.length - (b + 1))
                                  case measure => omega
                                  case rel => exact ⟨b + 1, by go_num, by omega, by omega, N9.out⟩

                            · have hlz3 : ¬ (b : Int) < (e.tails.length : Int) := by omega
                              obtain rfl : e.tails.length = b := by omega
                              go_wp2_with fail
                              go_roundg (ul - (a + 1))
                              case measure => omega
                              case rel =>
                                obtain ⟨⟨out', S', R', p', j1, j2, ⟨j3, j3'⟩, j4, j5, j6, j7⟩, j8⟩ := HR.out
                                exact ⟨a + 1, by go_num, by omega, by omega, out', S', R', p', j1, j2, j3.next HEE.out.1 HEE.out.2.1 (fun x hx => j3' x (by have h9 : e.plain.tails.length = e.tails.length := List.length_map _; omega)), by omega, j5, j6, j7⟩

                      · have hlz : ¬ (a : Int) < (ul : Int) := by omega
                        obtain rfl : ul = a := by omega
                        go_wp2_with fail
                        go_roundg (7300 - (pops + 1))
                        case measure => omega
                        case rel =>
                          obtain ⟨out', S', R', p', j1, j2, j3, j4, j5, j6, j7⟩ := HR.out
                          refine ⟨out', S', nd :: D, d, R', p', pops + 1, j1, j2, CovL.done (m := nd) (by rw [List.length_map, HU.out.2]; exact j3), by simp only [List.length_cons]; omega, j5, Nat.le_refl _⟩

              · obtain rfl : S = [] := Classical.not_not.1 hS
                have CP := Lib.hid (popNoneA_O k7.q)
                have HK := Lib.hid (And.intro k7 (And.intro p7 cv))
                clear HR k7 p7 cv hp hpp hgk hcnt hS
                go_wp2_with fail
                with_reducible refine CP.out.mono ?_
                rintro r w2 ⟨rfl, q2, e2⟩
                have k2 := HK.out.1.st.effT e2
                have KK := Lib.hid (And.intro k2 q2)
                clear k2 q2 e2 CP
                go_wp2_with fail
                go_ret
                exact ⟨bo, out, rfl, ⟨fun _ => HK.out.2.1.done EOK.out HIN.out HK.out.2.2, fun h => absurd ⟨Int.natCast_nonneg _, by omega⟩ h⟩, row_below KK.out.1.out ((Below.refl _ _).alloc (Nat.le_refl _) _), KK.out.1.below.alloc KK.out.1.below.size _, HGE.out⟩

end Go.Proofs.Ytepfbhigeghjjaa.Q
namespace Go.Proofs.Ytepfbhigeghjjaa.Q
open Go.RowKit Go.Proofs.YtepfbhigeghjjaaW.PrintLast
set_option linter.unusedVariables false
set_option linter.unusedSimpArgs false
set_option maxHeartbeats 2000000 in
set_option maxRecDepth 100000 in
theorem o40_r1 {hb n len cap : Nat} {root : Int} {A : Option Addr} {E : List K.Ed} {Q : Exit → Act → World → Prop} (hp : ∀ c (a : Act) (i : Nat) (v : Value) w, Q (.panic c) (a.put (some i) v) w → Q (.panic c) a w)
    {u0 u3 u4 u5 u6 u7 u8 u9 : Value} {wr : World} (HR : wr.rangeAt hb 0 [.int .i64 n, .slice A len cap]) (C73 : Hid (∀ W : World, Below wr.heap.size wr W → Calls Try.prog 73 #[.agg #[.int .i64 n, .slice A len cap]] W (InPost W n E))) (C72 : Hid (∀ (W : World) (bi : Nat) (v : Nat → K.V) (f : Nat → Int), Below wr.heap.size wr W → K.Sol E n v f → W.rowIs bi 3 n (intRow (fun i => (v i).1)) → Calls Try.prog 72 #[.agg #[.int .i64 n, .slice A len cap], .slice (some ⟨bi, 0, none⟩) n n, .int .i64 root] W (OutPost W n E (fun i => (v i).1) root)))
    (hQ : ∀ (bo : Nat) (v : Nat → K.V) (f out : Nat → Int) (w8 : World), K.Sol E n v f → OutIs E n (fun i => (v i).1) root out → w8.rowIs bo 3 n (intRow out) → Below wr.heap.size wr w8 → wr.heap.size ≤ bo → ∀ (t5 t6 t7 t8 t9 : Value), Q .normal { tmps := #[u0, .int .i64 root, .pointer (some ⟨hb, 0, none⟩), u3, .slice (some ⟨bo, 0, none⟩) n n, t5, t6, t7, t8, t9], defers := [] } (w8)) :
    Code.wp Try.prog (reg (Try.f40) 1) Q { tmps := #[u0, .int .i64 root, .pointer (some ⟨hb, 0, none⟩), u3, u4, u5, u6, u7, u8, u9], defers := [] } wr := by
  have HQ := Lib.hid hQ
  have HP := Lib.hid hp
  clear hQ hp
  refine start_ (n := 6) (S := fun w' => w'.rangeAt hb 0 [.int .i64 n, .slice A len cap]) (ds := []) #[false, false, false, false, false, false] (by kernel_rfl) rfl rfl HR (fun hHeld => ?_)
  refine pure_ (i := 3) (N := some 8) (v := ?_) (a' := ?_) #[false, false, false, true, false, false] rfl rfl (by kernel_rfl) (fun c a w h => HP.out c a _ _ w h) (Or.inl ⟨by rfl, ?_⟩) ?_ ?_
  rotate_left
  · intro w'
    go_simp
    with_reducible rfl
  rotate_left
  · simp only [Act.put, List.setIfInBounds_toArray, List.set_cons_zero, List.set_cons_succ, i64_w, i32_w]
    rfl
  refine take_ (i := 0) (N := some 5) (a' := ?_) #[true, false, false, true, false, false] rfl rfl (by kernel_rfl) (fun c a w h => HP.out c a _ _ w h) (yieldsIf_load_mid (by rfl) 48 _ rfl hb 0 (by rfl) [.int .i64 n, .slice A len cap] _ (fun w' h => h) Try.underlying48 rfl (by kernel_rfl)) hHeld ?_ ?_
  rotate_left
  · simp only [Act.put, List.setIfInBounds_toArray, List.set_cons_zero, List.set_cons_succ, i64_w, i32_w]
    rfl
  refine take_ (i := 1) (N := some 6) (a' := ?_) #[true, true, false, true, false, false] rfl rfl (by kernel_rfl) (fun c a w h => HP.out c a _ _ w h) (yieldsIf_load_mid (by rfl) 48 _ rfl hb 0 (by rfl) [.int .i64 n, .slice A len cap] _ (fun w' h => h) Try.underlying48 rfl (by kernel_rfl)) hHeld ?_ ?_
  rotate_left
  · simp only [Act.put, List.setIfInBounds_toArray, List.set_cons_zero, List.set_cons_succ, i64_w, i32_w]
    rfl
  refine one_ (i := 2) (N := some 7) #[true, true, true, true, false, false] rfl rfl (by kernel_rfl) (by decide) (fun K hK => ?_)
  refine goesV_ Try.func73 (by kernel_rfl) rfl #[.agg #[.int .i64 n, .slice A len cap]] (by rfl) rfl rfl (by rfl) (by simp only [List.map_toArray, List.map_cons, List.map_nil]; rfl) ?_
  with_reducible refine (C73.out _ (Below.refl wr.heap.size wr).drew).mono ?_
  rintro r w5 ⟨bi, v, f, rfl, hs, hr5, b5, hg5⟩
  have BB5 : Hid (Below wr.heap.size wr w5) := (Below.refl _ _).drew.trans b5
  have e5 := Eff.of_below b5 (fun _ => False)
  have HS := Lib.hid (And.intro hs hr5)
  clear b5 hs hr5 hg5
  refine ⟨_, rfl, ?_⟩
  refine hK.out _ _ (rangeAt_eff hHeld e5 (fun h => h)) (fun hHeld => ?_)
  clear hK K
  refine norm_ (a' := ?_) ?_ ?_
  rotate_left
  · show Act.put _ (some 7) _ = _
    simp only [Act.put, List.setIfInBounds_toArray, List.set_cons_zero, List.set_cons_succ, i64_w, i32_w]
    rfl
  refine one_ (i := 4) (N := some 9) #[true, true, true, true, true, false] rfl rfl (by kernel_rfl) (by decide) (fun K hK => ?_)
  refine goesV_ Try.func72 (by kernel_rfl) rfl #[.agg #[.int .i64 n, .slice A len cap], .slice (some ⟨bi, 0, none⟩) n n, .int .i64 root] (by rfl) rfl rfl (by rfl) (by simp only [List.map_toArray, List.map_cons, List.map_nil]; rfl) ?_
  with_reducible refine (C72.out _ _ _ _ BB5.out HS.out.1 HS.out.2).mono ?_
  rintro r w6 ⟨bo, out, rfl, ho, hr6, b6, hg6⟩
  have BB6 : Hid (Below wr.heap.size wr w6 ∧ OutIs E n (fun i => (v i).1) root out ∧ w6.rowIs bo 3 n (intRow out) ∧ wr.heap.size ≤ bo) := ⟨BB5.out.trans (b6.mono BB5.out.size), ho, hr6, Nat.le_trans BB5.out.size hg6⟩
  have e6 := Eff.of_below b6 (fun _ => False)
  clear b6 ho hr6 hg6
  refine ⟨_, rfl, ?_⟩
  refine hK.out _ _ (rangeAt_eff hHeld e6 (fun h => h)) (fun hHeld => ?_)
  clear hK K
  refine norm_ (a' := ?_) ?_ ?_
  rotate_left
  · show Act.put _ (some 9) _ = _
    simp only [Act.put, List.setIfInBounds_toArray, List.set_cons_zero, List.set_cons_succ, i64_w, i32_w]
    rfl
  refine pure_ (i := 5) (N := some 4) (v := ?_) (a' := ?_) #[true, true, true, true, true, true] rfl rfl (by kernel_rfl) (fun c a w h => HP.out c a _ _ w h) (Or.inl ⟨by rfl, ?_⟩) ?_ ?_
  rotate_left
  · intro w'
    go_simp
    with_reducible rfl
  rotate_left
  · simp only [Act.put, List.setIfInBounds_toArray, List.set_cons_zero, List.set_cons_succ, i64_w, i32_w]
    rfl
  refine done_ (by kernel_rfl) ?_
  exact HQ.out _ _ _ _ _ HS.out.1 BB6.out.2.1 BB6.out.2.2.1 BB6.out.1 BB6.out.2.2.2 _ _ _ _ _

set_option maxHeartbeats 2000000 in
set_option maxRecDepth 100000 in
theorem o45_r6 {bi bo n i : Nat} {x y c : Int} {Q : Exit → Act → World → Prop} (hp : ∀ c (a : Act) (i : Nat) (v : Value) w, Q (.panic c) (a.put (some i) v) w → Q (.panic c) a w)
    {u0 u1 u2 u3 u4 u8 u9 u10 u11 u12 u13 u14 u15 u16 u17 u18 u19 u20 u21 u22 u23 u24 u25 u26 u27 u28 u29 u30 u31 u32 u33 : Value} {wr : World} (hlz : (i : Int) < (n : Int)) (X0 : wr.cell? ⟨bo, i, none⟩ = some (.int .i64 x)) (Y0 : wr.cell? ⟨bi, i, none⟩ = some (.int .i64 y)) (FZ : Hid (∀ W : World, Below wr.heap.size wr W → W.frozen? ⟨bo, i, none⟩ = false)) (C75 : Hid (Calls Try.prog 75 #[.slice (some ⟨wr.heap.size, 0, none⟩) 2 2] (wr.alloc (.cells #[.int .i64 x, .int .i64 y] 3)).drew fun r w' => r = .returned (.int .i64 c) ∧ Below (wr.alloc (.cells #[.int .i64 x, .int .i64 y] 3)).drew.heap.size (wr.alloc (.cells #[.int .i64 x, .int .i64 y] 3)).drew w'))
    (hQ : ∀ (w8 : World), Below wr.heap.size wr w8 → ∀ (t19 t20 t21 t22 t23 t24 t25 t26 t27 t28 t29 t30 t31 : Value), Q .normal { tmps := #[u0, u1, u2, u3, u4, .slice (some ⟨bi, 0, none⟩) n n, .slice (some ⟨bo, 0, none⟩) n n, .int .i64 i, u8, u9, u10, u11, u12, u13, u14, u15, u16, u17, u18, t19, t20, t21, t22, t23, t24, t25, t26, t27, t28, t29, t30, t31, u32, u33], defers := [] } (w8.setCell ⟨bo, i, none⟩ (.int .i64 c))) :
    Code.wp Try.prog (reg (Try.f45) 6) Q { tmps := #[u0, u1, u2, u3, u4, .slice (some ⟨bi, 0, none⟩) n n, .slice (some ⟨bo, 0, none⟩) n n, .int .i64 i, u8, u9, u10, u11, u12, u13, u14, u15, u16, u17, u18, u19, u20, u21, u22, u23, u24, u25, u26, u27, u28, u29, u30, u31, u32, u33], defers := [] } wr := by
  have HQ := Lib.hid hQ
  have HP := Lib.hid hp
  clear hQ hp
  refine start_ (n := 14) (S := fun w' => w'.cell? ⟨bo, i, none⟩ = some (.int .i64 x) ∧ w'.cell? ⟨bi, i, none⟩ = some (.int .i64 y)) (ds := [13]) #[false, false, false, false, false, false, false, false, false, false, false, false, false, false] (by kernel_rfl) rfl rfl ⟨X0, Y0⟩ (fun hHeld => ?_)
  refine pure_ (i := 0) (N := some 19) (v := ?_) (a' := ?_) #[true, false, false, false, false, false, false, false, false, false, false, false, false, false] rfl rfl (by kernel_rfl) (fun c a w h => HP.out c a _ _ w h) (Or.inl ⟨by rfl, ?_⟩) ?_ ?_
  rotate_left
  · intro w'
    go_simp
    with_reducible rfl
  rotate_left
  · simp only [Act.put, List.setIfInBounds_toArray, List.set_cons_zero, List.set_cons_succ, i64_w, i32_w]
    rfl
  refine pure_ (i := 1) (N := some 20) (v := ?_) (a' := ?_) #[true, true, false, false, false, false, false, false, false, false, false, false, false, false] rfl rfl (by kernel_rfl) (fun c a w h => HP.out c a _ _ w h) (Or.inl ⟨by rfl, ?_⟩) ?_ ?_
  rotate_left
  · intro w'
    go_simp
    with_reducible rfl
  rotate_left
  · simp only [Act.put, List.setIfInBounds_toArray, List.set_cons_zero, List.set_cons_succ, i64_w, i32_w]
    rfl
  refine pure_ (i := 2) (N := some 21) (v := ?_) (a' := ?_) #[true, true, true, false, false, false, false, false, false, false, false, false, false, false] rfl rfl (by kernel_rfl) (fun c a w h => HP.out c a _ _ w h) (Or.inl ⟨by rfl, ?_⟩) ?_ ?_
  rotate_left
  · intro w'
    go_simp
    with_reducible rfl
  rotate_left
  · simp only [Act.put, List.setIfInBounds_toArray, List.set_cons_zero, List.set_cons_succ, i64_w, i32_w]
    rfl
  refine pure_ (i := 3) (N := some 22) (v := ?_) (a' := ?_) #[true, true, true, true, false, false, false, false, false, false, false, false, false, false] rfl rfl (by kernel_rfl) (fun c a w h => HP.out c a _ _ w h) (Or.inl ⟨by rfl, ?_⟩) ?_ ?_
  rotate_left
  · intro w'
    go_simp
    with_reducible rfl
  rotate_left
  · simp only [Act.put, List.setIfInBounds_toArray, List.set_cons_zero, List.set_cons_succ, i64_w, i32_w]
    rfl
  refine pure_ (i := 4) (N := some 23) (v := ?_) (a' := ?_) #[true, true, true, true, true, false, false, false, false, false, false, false, false, false] rfl rfl (by kernel_rfl) (fun c a w h => HP.out c a _ _ w h) (Or.inl ⟨by rfl, ?_⟩) ?_ ?_
  rotate_left
  · intro w'
    go_simp
    with_reducible rfl
  rotate_left
  · simp only [Act.put, List.setIfInBounds_toArray, List.set_cons_zero, List.set_cons_succ, i64_w, i32_w]
    rfl
  refine pure_ (i := 6) (N := some 25) (v := ?_) (a' := ?_) #[true, true, true, true, true, false, true, false, false, false, false, false, false, false] rfl rfl (by kernel_rfl) (fun c a w h => HP.out c a _ _ w h) (Or.inl ⟨by rfl, ?_⟩) ?_ ?_
  rotate_left
  · intro w'
    go_simp
    with_reducible rfl
  rotate_left
  · simp only [Act.put, List.setIfInBounds_toArray, List.set_cons_zero, List.set_cons_succ, i64_w, i32_w]
    rfl
  refine pure_ (i := 7) (N := some 26) (v := ?_) (a' := ?_) #[true, true, true, true, true, false, true, true, false, false, false, false, false, false] rfl rfl (by kernel_rfl) (fun c a w h => HP.out c a _ _ w h) (Or.inl ⟨by rfl, ?_⟩) ?_ ?_
  rotate_left
  · intro w'
    go_simp
    with_reducible rfl
  rotate_left
  · simp only [Act.put, List.setIfInBounds_toArray, List.set_cons_zero, List.set_cons_succ, i64_w, i32_w]
    rfl
  refine pure_ (i := 8) (N := some 27) (v := ?_) (a' := ?_) #[true, true, true, true, true, false, true, true, true, false, false, false, false, false] rfl rfl (by kernel_rfl) (fun c a w h => HP.out c a _ _ w h) (Or.inl ⟨by rfl, ?_⟩) ?_ ?_
  rotate_left
  · intro w'
    go_simp
    with_reducible rfl
  rotate_left
  · simp only [Act.put, List.setIfInBounds_toArray, List.set_cons_zero, List.set_cons_succ, i64_w, i32_w]
    rfl
  refine take_ (i := 5) (N := some 24) (v := ?_) (a' := ?_) #[true, true, true, true, true, true, true, true, true, false, false, false, false, false] rfl rfl (by kernel_rfl) (fun c a w h => HP.out c a _ _ w h) (Or.inl ⟨by rfl, ?_⟩) hHeld ?_ ?_
  rotate_left
  · rintro w' ⟨s0, s1⟩
    go_simp
    with_reducible rfl
  rotate_left
  · simp only [Act.put, List.setIfInBounds_toArray, List.set_cons_zero, List.set_cons_succ, i64_w, i32_w]
    rfl
  refine take_ (i := 9) (N := some 28) (v := ?_) (a' := ?_) #[true, true, true, true, true, true, true, true, true, true, false, false, false, false] rfl rfl (by kernel_rfl) (fun c a w h => HP.out c a _ _ w h) (Or.inl ⟨by rfl, ?_⟩) hHeld ?_ ?_
  rotate_left
  · rintro w' ⟨s0, s1⟩
    go_simp
    with_reducible rfl
  rotate_left
  · simp only [Act.put, List.setIfInBounds_toArray, List.set_cons_zero, List.set_cons_succ, i64_w, i32_w]
    rfl
  refine one_ (i := 10) (N := some 29) #[true, true, true, true, true, true, true, true, true, true, true, false, false, false] rfl rfl (by kernel_rfl) (by decide) (fun K hK => ?_)
  refine value_ (w1 := ?_) (v := ?_) (by rfl) rfl ?_ ?_
  rotate_left 2
  · go_simp
    constructor
    · rfl
    · rfl
  refine hK.out _ _ ⟨(Eff.cell (eff_alloc _ _) hHeld.1 (fun h => h)), (Eff.cell (eff_alloc _ _) hHeld.2 (fun h => h))⟩ (fun hHeld => ?_)
  clear hK K
  refine norm_ (a' := ?_) ?_ ?_
  rotate_left
  · show Act.put _ (some 29) _ = _
    simp only [Act.put, List.setIfInBounds_toArray, List.set_cons_zero, List.set_cons_succ, i64_w, i32_w]
    rfl
  refine one_ (i := 11) (N := some 30) #[true, true, true, true, true, true, true, true, true, true, true, true, false, false] rfl rfl (by kernel_rfl) (by decide) (fun K hK => ?_)
  refine goesV_ Try.func75 (by kernel_rfl) rfl #[.slice (some ⟨wr.heap.size, 0, none⟩) 2 2] (by rfl) rfl rfl (by rfl) (by simp only [List.map_toArray, List.map_cons, List.map_nil]; rfl) ?_
  with_reducible refine (C75.out).mono ?_
  rintro r w6 ⟨rfl, b6⟩
  have BB6 : Hid (Below wr.heap.size wr w6) := (((Below.refl wr.heap.size wr).alloc (Nat.le_refl _) _).drew).trans (b6.mono (by simp))
  have e6 := Eff.of_below b6 (fun _ => False)
  clear b6
  refine ⟨_, rfl, ?_⟩
  refine hK.out _ _ ⟨(Eff.cell e6 hHeld.1 (fun h => h)), (Eff.cell e6 hHeld.2 (fun h => h))⟩ (fun hHeld => ?_)
  clear hK K
  refine norm_ (a' := ?_) ?_ ?_
  rotate_left
  · show Act.put _ (some 30) _ = _
    simp only [Act.put, List.setIfInBounds_toArray, List.set_cons_zero, List.set_cons_succ, i64_w, i32_w]
    rfl
  refine pure_ (i := 12) (N := some 31) (v := ?_) (a' := ?_) #[true, true, true, true, true, true, true, true, true, true, true, true, true, false] rfl rfl (by kernel_rfl) (fun c a w h => HP.out c a _ _ w h) (Or.inl ⟨by rfl, ?_⟩) ?_ ?_
  rotate_left
  · intro w'
    go_simp
    with_reducible rfl
  rotate_left
  · simp only [Act.put, List.setIfInBounds_toArray, List.set_cons_zero, List.set_cons_succ, i64_w, i32_w]
    rfl
  refine last_ (i := 13) (N := none) #[true, true, true, true, true, true, true, true, true, true, true, true, true, true] rfl rfl (by kernel_rfl) (by decide) (fun K hK => ?_)
  refine skip_ (w1 := w6.setCell ⟨bo, i, none⟩ (.int .i64 c)) (by rfl) rfl (run_u (run_storeAt_one (w := w6) (by kernel_rfl) rfl (o := .int .i64 x) hHeld.1 (FZ.out _ BB6.out))) ?_
  refine hK.out _ _ ?_
  clear hK K
  refine done_ (by kernel_rfl) ?_
  exact HQ.out _ BB6.out _ _ _ _ _ _ _ _ _ _ _ _ _

set_option maxHeartbeats 2000000 in
set_option maxRecDepth 100000 in
theorem o59_r7 {bi bo bl xb n m k em ec hn : Nat} {d cost e0 l0 l1 m1 c o : Int} {eA : Option Addr} {Q : Exit → Act → World → Prop} (hp : ∀ c (a : Act) (i : Nat) (v : Value) w, Q (.panic c) (a.put (some i) v) w → Q (.panic c) a w)
    {u0 u1 u2 u3 u4 u10 u11 u12 u13 u14 u15 u16 u17 u18 u19 u20 u21 u22 u23 u24 u25 u26 u27 u28 u29 u30 u31 u32 u33 u34 u35 u36 u37 u38 u39 u40 u41 u42 u43 u44 : Value} {wr : World} (hkz : (k : Int) < (m : Int)) (hhz : (hn : Int) < (n : Int)) (X0 : wr.cell? ⟨xb, 0, none⟩ = some (.int .i64 hn)) (O0 : wr.cell? ⟨bo, hn, none⟩ = some (.int .i64 d)) (X2 : wr.cell? ⟨xb, 2, none⟩ = some (.int .i64 cost)) (XR : wr.rangeAt xb 0 [.int .i64 e0, .slice eA em ec, .int .i64 cost, .int .i64 l0, .int .i64 l1]) (L0 : wr.cell? ⟨bl, k, none⟩ = some (.int .i64 o)) (FZ : Hid (∀ W : World, Below wr.heap.size wr W → W.frozen? ⟨bl, k, none⟩ = false)) (C86 : Hid (∀ W : World, Below wr.heap.size wr W → Calls Try.prog 86 #[.agg #[.int .i64 e0, .slice eA em ec, .int .i64 cost, .int .i64 l0, .int .i64 l1], .slice (some ⟨bi, 0, none⟩) n n, .int .i64 (-1)] W fun r w' => r = .returned (.int .i64 m1) ∧ Below W.heap.size W w')) (C75 : Hid (∀ W : World, Calls Try.prog 75 #[.slice (some ⟨W.heap.size, 0, none⟩) 3 3] (W.alloc (.cells #[.int .i64 d, .int .i64 cost, .int .i64 m1] 3)) fun r w' => r = .returned (.int .i64 c) ∧ Below (W.alloc (.cells #[.int .i64 d, .int .i64 cost, .int .i64 m1] 3)).heap.size (W.alloc (.cells #[.int .i64 d, .int .i64 cost, .int .i64 m1] 3)) w'))
    (hQ : ∀ (w8 : World), Below wr.heap.size wr w8 → ∀ (t28 t29 t30 t31 t32 t33 t34 t35 t36 t37 t38 t39 t40 t41 t42 : Value), Q .normal { tmps := #[u0, u1, u2, u3, u4, .slice (some ⟨bi, 0, none⟩) n n, .slice (some ⟨bo, 0, none⟩) n n, .slice (some ⟨bl, 0, none⟩) m m, .int .i64 k, .pointer (some ⟨xb, 0, none⟩), u10, u11, u12, u13, u14, u15, u16, u17, u18, u19, u20, u21, u22, u23, u24, u25, u26, u27, t28, t29, t30, t31, t32, t33, t34, t35, t36, t37, t38, t39, t40, t41, t42, u43, u44], defers := [] } (w8.setCell ⟨bl, k, none⟩ (.int .i64 c))) :
    Code.wp Try.prog (reg (Try.f59) 7) Q { tmps := #[u0, u1, u2, u3, u4, .slice (some ⟨bi, 0, none⟩) n n, .slice (some ⟨bo, 0, none⟩) n n, .slice (some ⟨bl, 0, none⟩) m m, .int .i64 k, .pointer (some ⟨xb, 0, none⟩), u10, u11, u12, u13, u14, u15, u16, u17, u18, u19, u20, u21, u22, u23, u24, u25, u26, u27, u28, u29, u30, u31, u32, u33, u34, u35, u36, u37, u38, u39, u40, u41, u42, u43, u44], defers := [] } wr := by
  have HQ := Lib.hid hQ
  have HP := Lib.hid hp
  clear hQ hp
  refine start_ (n := 16) (S := fun w' => w'.cell? ⟨xb, 0, none⟩ = some (.int .i64 hn) ∧ w'.cell? ⟨bo, hn, none⟩ = some (.int .i64 d) ∧ w'.cell? ⟨xb, 2, none⟩ = some (.int .i64 cost) ∧ w'.rangeAt xb 0 [.int .i64 e0, .slice eA em ec, .int .i64 cost, .int .i64 l0, .int .i64 l1] ∧ w'.cell? ⟨bl, k, none⟩ = some (.int .i64 o)) (ds := [15]) #[false, false, false, false, false, false, false, false, false, false, false, false, false, false, false, false] (by kernel_rfl) rfl rfl ⟨X0, O0, X2, XR, L0⟩ (fun hHeld => ?_)
  refine pure_ (i := 0) (N := some 28) (v := ?_) (a' := ?_) #[true, false, false, false, false, false, false, false, false, false, false, false, false, false, false, false] rfl rfl (by kernel_rfl) (fun c a w h => HP.out c a _ _ w h) (Or.inl ⟨by rfl, ?_⟩) ?_ ?_
  rotate_left
  · intro w'
    go_simp
    with_reducible rfl
  rotate_left
  · simp only [Act.put, List.setIfInBounds_toArray, List.set_cons_zero, List.set_cons_succ, i64_w, i32_w]
    rfl
  refine pure_ (i := 1) (N := some 29) (v := ?_) (a' := ?_) #[true, true, false, false, false, false, false, false, false, false, false, false, false, false, false, false] rfl rfl (by kernel_rfl) (fun c a w h => HP.out c a _ _ w h) (Or.inl ⟨by rfl, ?_⟩) ?_ ?_
  rotate_left
  · intro w'
    go_simp
    with_reducible rfl
  rotate_left
  · simp only [Act.put, List.setIfInBounds_toArray, List.set_cons_zero, List.set_cons_succ, i64_w, i32_w]
    rfl
  refine pure_ (i := 2) (N := some 30) (v := ?_) (a' := ?_) #[true, true, true, false, false, false, false, false, false, false, false, false, false, false, false, false] rfl rfl (by kernel_rfl) (fun c a w h => HP.out c a _ _ w h) (Or.inl ⟨by rfl, ?_⟩) ?_ ?_
  rotate_left
  · intro w'
    go_simp
    with_reducible rfl
  rotate_left
  · simp only [Act.put, List.setIfInBounds_toArray, List.set_cons_zero, List.set_cons_succ, i64_w, i32_w]
    rfl
  refine pure_ (i := 3) (N := some 31) (v := ?_) (a' := ?_) #[true, true, true, true, false, false, false, false, false, false, false, false, false, false, false, false] rfl rfl (by kernel_rfl) (fun c a w h => HP.out c a _ _ w h) (Or.inl ⟨by rfl, ?_⟩) ?_ ?_
  rotate_left
  · intro w'
    go_simp
    with_reducible rfl
  rotate_left
  · simp only [Act.put, List.setIfInBounds_toArray, List.set_cons_zero, List.set_cons_succ, i64_w, i32_w]
    rfl
  refine pure_ (i := 7) (N := some 35) (v := ?_) (a' := ?_) #[true, true, true, true, false, false, false, true, false, false, false, false, false, false, false, false] rfl rfl (by kernel_rfl) (fun c a w h => HP.out c a _ _ w h) (Or.inl ⟨by rfl, ?_⟩) ?_ ?_
  rotate_left
  · intro w'
    go_simp
    with_reducible rfl
  rotate_left
  · simp only [Act.put, List.setIfInBounds_toArray, List.set_cons_zero, List.set_cons_succ, i64_w, i32_w]
    rfl
  refine pure_ (i := 10) (N := some 38) (v := ?_) (a' := ?_) #[true, true, true, true, false, false, false, true, false, false, true, false, false, false, false, false] rfl rfl (by kernel_rfl) (fun c a w h => HP.out c a _ _ w h) (Or.inl ⟨by rfl, ?_⟩) ?_ ?_
  rotate_left
  · intro w'
    go_simp
    with_reducible rfl
  rotate_left
  · simp only [Act.put, List.setIfInBounds_toArray, List.set_cons_zero, List.set_cons_succ, i64_w, i32_w]
    rfl
  refine take_ (i := 4) (N := some 32) (v := ?_) (a' := ?_) #[true, true, true, true, true, false, false, true, false, false, true, false, false, false, false, false] rfl rfl (by kernel_rfl) (fun c a w h => HP.out c a _ _ w h) (Or.inl ⟨by rfl, ?_⟩) hHeld ?_ ?_
  rotate_left
  · rintro w' ⟨s0, s1, s2, s3, s4⟩
    go_simp
    with_reducible rfl
  rotate_left
  · simp only [Act.put, List.setIfInBounds_toArray, List.set_cons_zero, List.set_cons_succ, i64_w, i32_w]
    rfl
  refine pure_ (i := 5) (N := some 33) (v := ?_) (a' := ?_) #[true, true, true, true, true, true, false, true, false, false, true, false, false, false, false, false] rfl rfl (by kernel_rfl) (fun c a w h => HP.out c a _ _ w h) (Or.inl ⟨by rfl, ?_⟩) ?_ ?_
  rotate_left
  · intro w'
    go_simp
    with_reducible rfl
  rotate_left
  · simp only [Act.put, List.setIfInBounds_toArray, List.set_cons_zero, List.set_cons_succ, i64_w, i32_w]
    rfl
  refine take_ (i := 6) (N := some 34) (v := ?_) (a' := ?_) #[true, true, true, true, true, true, true, true, false, false, true, false, false, false, false, false] rfl rfl (by kernel_rfl) (fun c a w h => HP.out c a _ _ w h) (Or.inl ⟨by rfl, ?_⟩) hHeld ?_ ?_
  rotate_left
  · rintro w' ⟨s0, s1, s2, s3, s4⟩
    go_simp
    with_reducible rfl
  rotate_left
  · simp only [Act.put, List.setIfInBounds_toArray, List.set_cons_zero, List.set_cons_succ, i64_w, i32_w]
    rfl
  refine take_ (i := 8) (N := some 36) (v := ?_) (a' := ?_) #[true, true, true, true, true, true, true, true, true, false, true, false, false, false, false, false] rfl rfl (by kernel_rfl) (fun c a w h => HP.out c a _ _ w h) (Or.inl ⟨by rfl, ?_⟩) hHeld ?_ ?_
  rotate_left
  · rintro w' ⟨s0, s1, s2, s3, s4⟩
    go_simp
    with_reducible rfl
  rotate_left
  · simp only [Act.put, List.setIfInBounds_toArray, List.set_cons_zero, List.set_cons_succ, i64_w, i32_w]
    rfl
  refine take_ (i := 9) (N := some 37) (a' := ?_) #[true, true, true, true, true, true, true, true, true, true, true, false, false, false, false, false] rfl rfl (by kernel_rfl) (fun c a w h => HP.out c a _ _ w h) (yieldsIf_load_mid (by rfl) 60 _ rfl xb 0 (by rfl) [.int .i64 e0, .slice eA em ec, .int .i64 cost, .int .i64 l0, .int .i64 l1] _ (fun w' h => h.2.2.2.1) Try.underlying60 rfl (by kernel_rfl)) hHeld ?_ ?_
  rotate_left
  · simp only [Act.put, List.setIfInBounds_toArray, List.set_cons_zero, List.set_cons_succ, i64_w, i32_w]
    rfl
  refine one_ (i := 11) (N := some 39) #[true, true, true, true, true, true, true, true, true, true, true, true, false, false, false, false] rfl rfl (by kernel_rfl) (by decide) (fun K hK => ?_)
  refine goesV_ Try.func86 (by kernel_rfl) rfl #[.agg #[.int .i64 e0, .slice eA em ec, .int .i64 cost, .int .i64 l0, .int .i64 l1], .slice (some ⟨bi, 0, none⟩) n n, .int .i64 (-1)] (by rfl) rfl rfl (by rfl) (by simp only [List.map_toArray, List.map_cons, List.map_nil]; rfl) ?_
  with_reducible refine (C86.out _ (Below.refl wr.heap.size wr).drew).mono ?_
  rintro r w5 ⟨rfl, b5⟩
  have BB5 : Hid (Below wr.heap.size wr w5) := (Below.refl _ _).drew.trans b5
  have e5 := Eff.of_below b5 (fun _ => False)
  clear b5
  refine ⟨_, rfl, ?_⟩
  refine hK.out _ _ ⟨(Eff.cell e5 hHeld.1 (fun h => h)), (Eff.cell e5 hHeld.2.1 (fun h => h)), (Eff.cell e5 hHeld.2.2.1 (fun h => h)), (rangeAt_eff hHeld.2.2.2.1 e5 (fun h => h)), (Eff.cell e5 hHeld.2.2.2.2 (fun h => h))⟩ (fun hHeld => ?_)
  clear hK K
  refine norm_ (a' := ?_) ?_ ?_
  rotate_left
  · show Act.put _ (some 39) _ = _
    simp only [Act.put, List.setIfInBounds_toArray, List.set_cons_zero, List.set_cons_succ, i64_w, i32_w]
    rfl
  refine one_ (i := 12) (N := some 40) #[true, true, true, true, true, true, true, true, true, true, true, true, true, false, false, false] rfl rfl (by kernel_rfl) (by decide) (fun K hK => ?_)
  refine value_ (w1 := ?_) (v := ?_) (by rfl) rfl ?_ ?_
  rotate_left 2
  · go_simp
    constructor
    · rfl
    · rfl
  refine hK.out _ _ ⟨(Eff.cell (eff_alloc _ _) hHeld.1 (fun h => h)), (Eff.cell (eff_alloc _ _) hHeld.2.1 (fun h => h)), (Eff.cell (eff_alloc _ _) hHeld.2.2.1 (fun h => h)), (rangeAt_eff hHeld.2.2.2.1 (eff_alloc _ _) (fun h => h)), (Eff.cell (eff_alloc _ _) hHeld.2.2.2.2 (fun h => h))⟩ (fun hHeld => ?_)
  clear hK K
  refine norm_ (a' := ?_) ?_ ?_
  rotate_left
  · show Act.put _ (some 40) _ = _
    simp only [Act.put, List.setIfInBounds_toArray, List.set_cons_zero, List.set_cons_succ, i64_w, i32_w]
    rfl
  refine one_ (i := 13) (N := some 41) #[true, true, true, true, true, true, true, true, true, true, true, true, true, true, false, false] rfl rfl (by kernel_rfl) (by decide) (fun K hK => ?_)
  refine goesV_ Try.func75 (by kernel_rfl) rfl #[.slice (some ⟨w5.heap.size, 0, none⟩) 3 3] (by rfl) rfl rfl (by rfl) (by simp only [List.map_toArray, List.map_cons, List.map_nil]; rfl) ?_
  with_reducible refine (C75.out w5).mono ?_
  rintro r w6 ⟨rfl, b6⟩
  have BB6 : Hid (Below wr.heap.size wr w6) := (BB5.out.alloc BB5.out.size _).trans (b6.mono (by have := BB5.out.size; simp; omega))
  have e6 := Eff.of_below b6 (fun _ => False)
  clear b6
  refine ⟨_, rfl, ?_⟩
  refine hK.out _ _ ⟨(Eff.cell e6 hHeld.1 (fun h => h)), (Eff.cell e6 hHeld.2.1 (fun h => h)), (Eff.cell e6 hHeld.2.2.1 (fun h => h)), (rangeAt_eff hHeld.2.2.2.1 e6 (fun h => h)), (Eff.cell e6 hHeld.2.2.2.2 (fun h => h))⟩ (fun hHeld => ?_)
  clear hK K
  refine norm_ (a' := ?_) ?_ ?_
  rotate_left
  · show Act.put _ (some 41) _ = _
    simp only [Act.put, List.setIfInBounds_toArray, List.set_cons_zero, List.set_cons_succ, i64_w, i32_w]
    rfl
  refine pure_ (i := 14) (N := some 42) (v := ?_) (a' := ?_) #[true, true, true, true, true, true, true, true, true, true, true, true, true, true, true, false] rfl rfl (by kernel_rfl) (fun c a w h => HP.out c a _ _ w h) (Or.inl ⟨by rfl, ?_⟩) ?_ ?_
  rotate_left
  · intro w'
    go_simp
    with_reducible rfl
  rotate_left
  · simp only [Act.put, List.setIfInBounds_toArray, List.set_cons_zero, List.set_cons_succ, i64_w, i32_w]
    rfl
  refine last_ (i := 15) (N := none) #[true, true, true, true, true, true, true, true, true, true, true, true, true, true, true, true] rfl rfl (by kernel_rfl) (by decide) (fun K hK => ?_)
  refine skip_ (w1 := w6.setCell ⟨bl, k, none⟩ (.int .i64 c)) (by rfl) rfl (run_u (run_storeAt_one (w := w6) (by kernel_rfl) rfl (o := .int .i64 o) hHeld.2.2.2.2 (FZ.out _ BB6.out))) ?_
  refine hK.out _ _ ?_
  clear hK K
  refine done_ (by kernel_rfl) ?_
  exact HQ.out _ BB6.out _ _ _ _ _ _ _ _ _ _ _ _ _ _ _

/-- A row of m costs that F reads off the inside and the outside costs. -/
def RPost (w : World) (E : List K.Ed) (n m : Nat) (root : Int) (F : (Nat → Int) → (Nat → Int) → Nat → Int) (r : Ending) (w' : World) : Prop :=
  ∃ (b : Nat) (v : Nat → K.V) (f out : Nat → Int), r = .returned (.slice (some ⟨b, 0, none⟩) m m) ∧ K.Sol E n v f ∧ OutIs E n (fun i => (v i).1) root out ∧ w'.rowIs b 3 m (intRow (F (fun i => (v i).1) out)) ∧ Below w.heap.size w w' ∧ w.heap.size ≤ b
def fOut (_ out : Nat → Int) (i : Nat) : Int := out i
def fThr (inn out : Nat → Int) (i : Nat) : Int := min (out i + inn i) 1099511627776
def fEdge (E : List K.Ed) (inn out : Nat → Int) (k : Nat) : Int := match E[k]? with
  | some e => min (out e.head + e.cost + K.oth inn e.tails 0 (-1)) 1099511627776
  | none => 0
theorem sol_ok {E : List K.Ed} {n : Nat} {v : Nat → K.V} {f : Nat → Int} (h : K.Sol E n v f) : okIn n (fun i => (v i).1) := fun i hi => by
  have h1 := h.fix.ok i hi
  unfold K.OkV at h1
  have hI : K.INF = 1099511627776 := rfl
  show 0 ≤ (v i).1 ∧ (v i).1 ≤ 1099511627776
  omega
theorem outIs_ok {E : List K.Ed} {n : Nat} {inn : Nat → Int} {root : Int} {out : Nat → Int} (h : OutIs E n inn root out) : ∀ i, i < n → 0 ≤ out i ∧ out i ≤ 1099511627776 := fun i hi => by
  by_cases hr : 0 ≤ root ∧ root < n
  · exact (h.1 hr).ok i hi
  · rw [h.2 hr i hi]; decide
theorem oth_none {n : Nat} {inn : Nat → Int} {e : REd} (hok : e.ok n) (hin : okIn n inn) (k : Int) : 0 ≤ K.oth inn e.plain.tails 0 k := K.oth_nn k _ 0 (fun t ht => by
  obtain ⟨t0, h0, rfl⟩ := List.mem_map.1 ht
  have := hok.2.2.1 t0 h0
  exact (hin _ (by omega)).1)
/-- A fresh row of three costs, summed. -/
theorem sum_three {a b c d : Int} (ha : 0 ≤ a ∧ a ≤ 1099511627776) (hb : 0 ≤ b ∧ b ≤ 1099511627776) (hc : 0 ≤ c ∧ c ≤ 1099511627776) (hd : min (a + b + c) 1099511627776 = d) (W : World) :
    Calls Try.prog 75 #[.slice (some ⟨W.heap.size, 0, none⟩) 3 3] (W.alloc (.cells #[.int .i64 a, .int .i64 b, .int .i64 c] 3)) fun r w' => r = .returned (.int .i64 d) ∧ Below (W.alloc (.cells #[.int .i64 a, .int .i64 b, .int .i64 c] 3)).heap.size (W.alloc (.cells #[.int .i64 a, .int .i64 b, .int .i64 c] 3)) w' := by
  have h1 := sum75 (w := W.alloc (.cells #[.int .i64 a, .int .i64 b, .int .i64 c] 3)) (A := some ⟨W.heap.size, 0, none⟩) (cap := 3) [a, b, c] (fun q y hy => by
    have hq : q < 3 := (List.getElem?_eq_some_iff.1 hy).1
    refine ⟨_, _, rfl, ?_⟩
    exact box_range (L := [.int .i64 a, .int .i64 b, .int .i64 c]) (heap_alloc_new W (.cells #[.int .i64 a, .int .i64 b, .int .i64 c] 3)) 0 _ (fun j v h => by rw [Nat.zero_add]; exact h) q (.int .i64 y) (by
      have : q = 0 ∨ q = 1 ∨ q = 2 := by omega
      rcases this with rfl | rfl | rfl <;> (cases hy; rfl))) (fun x hx => by
    simp only [List.mem_cons, List.not_mem_nil, or_false] at hx
    rcases hx with rfl | rfl | rfl
    · exact ha
    · exact hb
    · exact hc) (by show 3 ≤ 1000; decide)
  rw [satS_three ha.1 hb.1 hc.1, hd] at h1
  exact h1
theorem sum_two {a b d : Int} (ha : 0 ≤ a ∧ a ≤ 1099511627776) (hb : 0 ≤ b ∧ b ≤ 1099511627776) (hd : min (a + b) 1099511627776 = d) (W : World) :
    Calls Try.prog 75 #[.slice (some ⟨W.heap.size, 0, none⟩) 2 2] (W.alloc (.cells #[.int .i64 a, .int .i64 b] 3)) fun r w' => r = .returned (.int .i64 d) ∧ Below (W.alloc (.cells #[.int .i64 a, .int .i64 b] 3)).heap.size (W.alloc (.cells #[.int .i64 a, .int .i64 b] 3)) w' := by
  have h1 := sum75 (w := W.alloc (.cells #[.int .i64 a, .int .i64 b] 3)) (A := some ⟨W.heap.size, 0, none⟩) (cap := 2) [a, b] (fun q y hy => by
    have hq : q < 2 := (List.getElem?_eq_some_iff.1 hy).1
    refine ⟨_, _, rfl, ?_⟩
    exact box_range (L := [.int .i64 a, .int .i64 b]) (heap_alloc_new W (.cells #[.int .i64 a, .int .i64 b] 3)) 0 _ (fun j v h => by rw [Nat.zero_add]; exact h) q (.int .i64 y) (by
      have : q = 0 ∨ q = 1 := by omega
      rcases this with rfl | rfl <;> (cases hy; rfl))) (fun x hx => by
    simp only [List.mem_cons, List.not_mem_nil, or_false] at hx
    rcases hx with rfl | rfl
    · exact ha
    · exact hb) (by show 2 ≤ 1000; decide)
  rw [satS_two ha.1 ha.2, hd] at h1
  exact h1
theorem sum_two_d {a b d : Int} (ha : 0 ≤ a ∧ a ≤ 1099511627776) (hb : 0 ≤ b ∧ b ≤ 1099511627776) (hd : min (a + b) 1099511627776 = d) (W : World) :
    Calls Try.prog 75 #[.slice (some ⟨W.heap.size, 0, none⟩) 2 2] (W.alloc (.cells #[.int .i64 a, .int .i64 b] 3)).drew fun r w' => r = .returned (.int .i64 d) ∧ Below (W.alloc (.cells #[.int .i64 a, .int .i64 b] 3)).drew.heap.size (W.alloc (.cells #[.int .i64 a, .int .i64 b] 3)).drew w' := by
  have h1 := sum75 (w := (W.alloc (.cells #[.int .i64 a, .int .i64 b] 3)).drew) (A := some ⟨W.heap.size, 0, none⟩) (cap := 2) [a, b] (fun q y hy => by
    have hq : q < 2 := (List.getElem?_eq_some_iff.1 hy).1
    refine ⟨_, _, rfl, ?_⟩
    exact box_range (L := [.int .i64 a, .int .i64 b]) (show (W.alloc (.cells #[.int .i64 a, .int .i64 b] 3)).drew.heap[W.heap.size]? = _ from heap_alloc_new W (.cells #[.int .i64 a, .int .i64 b] 3)) 0 _ (fun j v h => by rw [Nat.zero_add]; exact h) q (.int .i64 y) (by
      have : q = 0 ∨ q = 1 := by omega
      rcases this with rfl | rfl <;> (cases hy; rfl))) (fun x hx => by
    simp only [List.mem_cons, List.not_mem_nil, or_false] at hx
    rcases hx with rfl | rfl
    · exact ha
    · exact hb) (by show 2 ≤ 1000; decide)
  rw [satS_two ha.1 ha.2, hd] at h1
  exact h1
theorem row_next {W : World} {b m i : Nat} {g h : Nat → Int} (hr : W.rowIs b 3 m (intRow (fun j => if j < i then g j else h j))) : (W.setCell ⟨b, i, none⟩ (.int .i64 (g i))).rowIs b 3 m (intRow (fun j => if j < i + 1 then g j else h j)) :=
  (hr.set i (.int .i64 (g i))).congr (fun j _ => by
    show (if j = i then Value.int .i64 (g i) else Value.int .i64 (if j < i then g j else h j)) = Value.int .i64 (if j < i + 1 then g j else h j)
    by_cases hji : j = i
    · rw [if_pos hji, if_pos (by omega), hji]
    · rw [if_neg hji]
      by_cases hj : j < i
      · rw [if_pos hj, if_pos (by omega)]
      · rw [if_neg hj, if_neg (by omega)])
theorem row_ne {W : World} {b c n : Nat} {v : Nat → Value} (h : W.rowIs b 3 n v) (hc : W.heap.size ≤ c) : b ≠ c := fun e => by
  obtain ⟨cs, h1, _⟩ := h
  have := (Array.getElem?_eq_some_iff.1 h1).1
  omega
end Go.Proofs.Ytepfbhigeghjjaa.Q
namespace Go.Proofs.Ytepfbhigeghjjaa.Q
open Go.RowKit Go.Proofs.YtepfbhigeghjjaaW.PrintLast
set_option linter.unusedVariables false
set_option linter.unusedSimpArgs false

set_option maxHeartbeats 8000000 in
set_option maxRecDepth 100000 in
theorem outside40 {w : World} {n cap : Nat} {A : Option Addr} {es : List REd} (root : Int) (hA : EdsIn w A es) (hok : ∀ e ∈ es, e.ok n) (hn : n ≤ 30) (hm : es.length ≤ 60) :
    Calls Try.prog 40 #[.agg #[.int .i64 n, .slice A es.length cap], .int .i64 root] w (RPost w (es.map REd.plain) n n root fOut) := by
  have HA := Lib.hid hA
  have HOK := Lib.hid hok
  obtain ⟨W1, hW1⟩ : ∃ W, W = w.alloc (.cells #[.int .i64 n, .slice A es.length cap] 48) := ⟨_, rfl⟩
  obtain ⟨hb, hhb⟩ : ∃ b, b = w.heap.size := ⟨_, rfl⟩
  have B1 : Hid (Below w.heap.size w W1) := by rw [hW1]; exact (Below.refl _ _).alloc (Nat.le_refl _) _
  have H1 : Hid (HBZ W1 hb n es.length cap A) := by show W1.heap[hb]? = _; rw [hW1, hhb]; exact heap_alloc_new w _
  have HW1 := Lib.hid (And.intro hW1 hhb)
  have C73 : Hid (∀ W : World, Below W1.heap.size W1 W → Calls Try.prog 73 #[.agg #[.int .i64 n, .slice A es.length cap]] W (InPost W n (es.map REd.plain))) := fun W hW => inside73 (cap := cap) (HA.out.below (B1.out.trans (hW.mono B1.out.size))) HOK.out (by omega) (by omega)
  clear hA hok hW1 hhb
  go_enter Try.func40, Try.ntmps40
  go_wp2_with fail
  rw [← HW1.out.1, ← HW1.out.2]
  have C72 : Hid (∀ (W : World) (bi : Nat) (v : Nat → K.V) (f : Nat → Int), Below W1.heap.size W1 W → K.Sol (es.map REd.plain) n v f → W.rowIs bi 3 n (intRow (fun i => (v i).1)) → Calls Try.prog 72 #[.agg #[.int .i64 n, .slice A es.length cap], .slice (some ⟨bi, 0, none⟩) n n, .int .i64 root] W (OutPost W n (es.map REd.plain) (fun i => (v i).1) root)) :=
    fun W bi v f hW hs hr => outside72 root (HA.out.below (B1.out.trans (hW.mono B1.out.size))) HOK.out hn hm (sol_ok hs) hr
  refine o40_r1 (fun _ _ _ _ _ h => h) (box_range (L := [.int .i64 n, .slice A es.length cap]) H1.out 0 _ (fun j v h => by rw [Nat.zero_add]; exact h)) C73 C72 ?_
  intro bo v f out w8 hs ho hr8 b8 hg8 t5 t6 t7 t8 t9
  have HX : Hid (RPost w (es.map REd.plain) n n root fOut (.returned (.slice (some ⟨bo, 0, none⟩) n n)) w8) := ⟨bo, v, f, out, rfl, hs, ho, hr8, B1.out.trans (b8.mono B1.out.size), Nat.le_trans B1.out.size hg8⟩
  clear hs ho hr8 b8 hg8
  go_wp2_with fail
  go_ret
  exact HX.out

set_option maxHeartbeats 8000000 in
set_option maxRecDepth 100000 in
theorem through45 {w : World} {n cap : Nat} {A : Option Addr} {es : List REd} (root : Int) (hA : EdsIn w A es) (hok : ∀ e ∈ es, e.ok n) (hn : n ≤ 30) (hm : es.length ≤ 60) :
    Calls Try.prog 45 #[.agg #[.int .i64 n, .slice A es.length cap], .int .i64 root] w (RPost w (es.map REd.plain) n n root fThr) := by
  have HA := Lib.hid hA
  have HOK := Lib.hid hok
  obtain ⟨W1, hW1⟩ : ∃ W, W = w.alloc (.cells #[.int .i64 n, .slice A es.length cap] 48) := ⟨_, rfl⟩
  obtain ⟨hb, hhb⟩ : ∃ b, b = w.heap.size := ⟨_, rfl⟩
  have B1 : Hid (Below w.heap.size w W1) := by rw [hW1]; exact (Below.refl _ _).alloc (Nat.le_refl _) _
  have H1 : Hid (HBZ W1 hb n es.length cap A) := by show W1.heap[hb]? = _; rw [hW1, hhb]; exact heap_alloc_new w _
  have HW1 := Lib.hid (And.intro hW1 hhb)
  have C73 : Hid (∀ W : World, Below W1.heap.size W1 W → Calls Try.prog 73 #[.agg #[.int .i64 n, .slice A es.length cap]] W (InPost W n (es.map REd.plain))) := fun W hW => inside73 (cap := cap) (HA.out.below (B1.out.trans (hW.mono B1.out.size))) HOK.out (by omega) (by omega)
  clear hA hok hW1 hhb
  go_enter Try.func45, Try.ntmps45
  go_wp2_with fail
  rw [← HW1.out.1, ← HW1.out.2]
  obtain ⟨y0, y1⟩ := H1.out.c
  have C1 := Lib.hid (C73.out W1 (Below.refl _ _))
  clear C73 HW1
  go_wp2_with fail
  with_reducible refine C1.out.mono ?_
  rintro r w2 ⟨bi, v, f, rfl, hs, hr2, b2, hg2⟩
  have B2 : Hid (Below w.heap.size w w2) := B1.out.trans (b2.mono B1.out.size)
  have H2 := Lib.hid (H1.out.bel b2)
  have C72 := Lib.hid (outside72 (ecap := cap) root (HA.out.below B2.out) HOK.out hn hm (sol_ok hs) hr2)
  have HS := Lib.hid (And.intro hs hr2)
  clear hs hr2 b2 hg2 y0 y1 C1 H1 B1
  obtain ⟨y0, y1⟩ := H2.out.c
  go_wp2_with fail
  with_reducible refine C72.out.mono ?_
  rintro r w3 ⟨bo, out, rfl, ho, hr3, b3, hg3⟩
  have R3 : Hid (Below w.heap.size w w3 ∧ w3.rowIs bi 3 n (intRow (fun i => (v i).1)) ∧ w3.rowIs bo 3 n (intRow out)) := ⟨B2.out.trans (b3.mono B2.out.size), row_below HS.out.2 b3, hr3⟩
  have HO : Hid (OutIs (es.map REd.plain) n (fun i => (v i).1) root out ∧ w.heap.size ≤ bo ∧ bi ≠ bo) := ⟨ho, Nat.le_trans B2.out.size hg3, row_ne HS.out.2 hg3⟩
  have H3 := Lib.hid (H2.out.bel b3)
  clear ho hr3 b3 hg3 y0 y1 C72 B2 H2
  have HI : Hid (Below w.heap.size w w3 ∧ w3.rowIs bi 3 n (intRow (fun i => (v i).1)) ∧ w3.rowIs bo 3 n (intRow (fun j => if j < 0 then fThr (fun i => (v i).1) out j else out j))) := ⟨R3.out.1, R3.out.2.1, R3.out.2.2.congr (fun j _ => by show Value.int .i64 (out j) = Value.int .i64 (if j < 0 then _ else out j); rw [if_neg (Nat.not_lt_zero _)])⟩
  clear R3
  go_wp2_with fail
  go_loopg [16] n (fun gk si wr => ∃ i : Nat, si = .int .i64 i ∧ i ≤ n ∧ n - i ≤ gk ∧ Hid (Below w.heap.size w wr ∧ wr.rowIs bi 3 n (intRow (fun i => (v i).1)) ∧ wr.rowIs bo 3 n (intRow (fun j => if j < i then fThr (fun i => (v i).1) out j else out j))))
  case atStart => exact ⟨0, rfl, by omega, by omega, HI.out⟩
  case round =>
    clear HI
    obtain ⟨i, rfl, hi, hk, HR⟩ := hrel
    by_cases hlt : i < n
    · have hlz : (i : Int) < (n : Int) := by omega
      obtain ⟨x, hx⟩ : ∃ x, out i = x := ⟨_, rfl⟩
      obtain ⟨y, hy⟩ : ∃ y, (v i).1 = y := ⟨_, rfl⟩
      have hxo := outIs_ok HO.out.1 i hlt
      have hyo := sol_ok HS.out.1 i hlt
      have X0 : wr.cell? ⟨bo, i, none⟩ = some (.int .i64 x) := by
        have := HR.out.2.2.cell hlt
        rw [this]
        show some (Value.int .i64 (if i < i then _ else out i)) = _
        rw [if_neg (Nat.lt_irrefl i), hx]
      have Y0 : wr.cell? ⟨bi, i, none⟩ = some (.int .i64 y) := by rw [← hy]; exact HR.out.2.1.cell hlt
      have FZ : Hid (∀ W : World, Below wr.heap.size wr W → W.frozen? ⟨bo, i, none⟩ = false) := fun W hW => (row_below HR.out.2.2 hW).frozen i
      have hc : fThr (fun i => (v i).1) out i = min (x + y) 1099511627776 := by unfold fThr; rw [hx]; show min (x + (v i).1) _ = _; rw [hy]
      have C75 := Lib.hid (sum_two_d (a := x) (b := y) (by rw [← hx]; exact hxo) (by rw [← hy]; exact hyo) hc.symm wr)
      have X0' := Lib.hid X0
      have Y0' := Lib.hid Y0
      clear hx hy hxo hyo hc X0 Y0
      go_wp2_with fail
      refine o45_r6 (fun _ _ _ _ _ h => h) hlz X0'.out Y0'.out FZ C75 ?_
      intro w8 b8 t19 t20 t21 t22 t23 t24 t25 t26 t27 t28 t29 t30 t31
      have N8 : Hid (Below w.heap.size w (w8.setCell ⟨bo, i, none⟩ (.int .i64 (fThr (fun i => (v i).1) out i))) ∧ (w8.setCell ⟨bo, i, none⟩ (.int .i64 (fThr (fun i => (v i).1) out i))).rowIs bi 3 n (intRow (fun i => (v i).1)) ∧ (w8.setCell ⟨bo, i, none⟩ (.int .i64 (fThr (fun i => (v i).1) out i))).rowIs bo 3 n (intRow (fun j => if j < i + 1 then fThr (fun i => (v i).1) out j else out j))) := by
        have he : Eff (fun k => k = bo) w8 (w8.setCell ⟨bo, i, none⟩ (.int .i64 (fThr (fun i => (v i).1) out i))) := eff_setCell w8 bo i _
        have B8 := HR.out.1.trans (b8.mono HR.out.1.size)
        exact ⟨B8.trans (he.belowB B8.size (fun k hk => by rw [hk]; exact HO.out.2.1)), rowIs_eff (row_below HR.out.2.1 b8) he HO.out.2.2, row_next (row_below HR.out.2.2 b8)⟩
      clear b8 X0' Y0' FZ C75
      go_wp2_with fail
      go_roundg (n - (i + 1))
      case measure => omega
      case rel => exact ⟨i + 1, by go_num, by omega, by omega, N8.out⟩
    · have hlz : ¬ (i : Int) < (n : Int) := by omega
      obtain rfl : n = i := by omega
      go_wp2_with fail
      go_ret
      exact ⟨bo, v, f, out, rfl, HS.out.1, HO.out.1, HR.out.2.2.congr (fun j hj => by show Value.int .i64 (if j < n then _ else out j) = Value.int .i64 _; rw [if_pos hj]), HR.out.1, HO.out.2.1⟩

set_option maxHeartbeats 8000000 in
set_option maxRecDepth 100000 in
theorem edge59 {w : World} {n cap : Nat} {A : Option Addr} {es : List REd} (root : Int) (hA : EdsIn w A es) (hok : ∀ e ∈ es, e.ok n) (hn : n ≤ 30) (hm : es.length ≤ 60) :
    Calls Try.prog 59 #[.agg #[.int .i64 n, .slice A es.length cap], .int .i64 root] w (RPost w (es.map REd.plain) n es.length root (fEdge (es.map REd.plain))) := by
  have HA := Lib.hid hA
  have HOK := Lib.hid hok
  obtain ⟨W1, hW1⟩ : ∃ W, W = w.alloc (.cells #[.int .i64 n, .slice A es.length cap] 48) := ⟨_, rfl⟩
  obtain ⟨hb, hhb⟩ : ∃ b, b = w.heap.size := ⟨_, rfl⟩
  have B1 : Hid (Below w.heap.size w W1) := by rw [hW1]; exact (Below.refl _ _).alloc (Nat.le_refl _) _
  have H1 : Hid (HBZ W1 hb n es.length cap A) := by show W1.heap[hb]? = _; rw [hW1, hhb]; exact heap_alloc_new w _
  have HW1 := Lib.hid (And.intro hW1 hhb)
  have C73 : Hid (∀ W : World, Below W1.heap.size W1 W → Calls Try.prog 73 #[.agg #[.int .i64 n, .slice A es.length cap]] W (InPost W n (es.map REd.plain))) := fun W hW => inside73 (cap := cap) (HA.out.below (B1.out.trans (hW.mono B1.out.size))) HOK.out (by omega) (by omega)
  clear hA hok hW1 hhb
  go_enter Try.func59, Try.ntmps59
  go_wp2_with fail
  rw [← HW1.out.1, ← HW1.out.2]
  obtain ⟨y0, y1⟩ := H1.out.c
  have C1 := Lib.hid (C73.out W1 (Below.refl _ _))
  clear C73 HW1
  go_wp2_with fail
  with_reducible refine C1.out.mono ?_
  rintro r w2 ⟨bi, v, f, rfl, hs, hr2, b2, hg2⟩
  have B2 : Hid (Below w.heap.size w w2) := B1.out.trans (b2.mono B1.out.size)
  have H2 := Lib.hid (H1.out.bel b2)
  have C72 := Lib.hid (outside72 (ecap := cap) root (HA.out.below B2.out) HOK.out hn hm (sol_ok hs) hr2)
  have HS := Lib.hid (And.intro hs hr2)
  clear hs hr2 b2 hg2 y0 y1 C1 H1 B1
  obtain ⟨y0, y1⟩ := H2.out.c
  go_wp2_with fail
  with_reducible refine C72.out.mono ?_
  rintro r w3 ⟨bo, out, rfl, ho, hr3, b3, hg3⟩
  have R3 : Hid (Below w.heap.size w w3 ∧ w3.rowIs bi 3 n (intRow (fun i => (v i).1)) ∧ w3.rowIs bo 3 n (intRow out)) := ⟨B2.out.trans (b3.mono B2.out.size), row_below HS.out.2 b3, hr3⟩
  have HO : Hid (OutIs (es.map REd.plain) n (fun i => (v i).1) root out ∧ w.heap.size ≤ bo ∧ bi ≠ bo) := ⟨ho, Nat.le_trans B2.out.size hg3, row_ne HS.out.2 hg3⟩
  have H3 := Lib.hid (H2.out.bel b3)
  clear ho hr3 b3 hg3 y0 y1 C72 B2 H2
  obtain ⟨y0, y1⟩ := H3.out.c
  obtain ⟨W4, hW4⟩ : ∃ W, W = w3.alloc (oI es.length) := ⟨_, rfl⟩
  obtain ⟨bl, hbl⟩ : ∃ b, b = w3.heap.size := ⟨_, rfl⟩
  have B4 : Below w3.heap.size w3 W4 := by rw [hW4]; exact (Below.refl _ _).alloc (Nat.le_refl _) _
  have HI : Hid ((Below w.heap.size w W4 ∧ HBZ W4 hb n es.length cap A) ∧ (W4.rowIs bi 3 n (intRow (fun i => (v i).1)) ∧ W4.rowIs bo 3 n (intRow out)) ∧ W4.rowIs bl 3 es.length (intRow (fun j => if j < 0 then fEdge (es.map REd.plain) (fun i => (v i).1) out j else 0))) :=
    ⟨⟨R3.out.1.trans (B4.mono R3.out.1.size), H3.out.bel B4⟩, ⟨row_below R3.out.2.1 B4, row_below R3.out.2.2 B4⟩, by rw [hW4, hbl]; exact (row_of (heap_alloc_new w3 (oI es.length))).congr (fun j _ => by show _ = Value.int .i64 (if j < 0 then _ else 0); rw [if_neg (Nat.not_lt_zero _)])⟩
  have HG : Hid (w.heap.size ≤ bl ∧ bi ≠ bl ∧ bo ≠ bl) := by rw [hbl]; exact ⟨R3.out.1.size, row_ne R3.out.2.1 (Nat.le_refl _), row_ne R3.out.2.2 (Nat.le_refl _)⟩
  have hmk := makeI es.length (by omega)
  have y2 : (w3.alloc (oI es.length)).cell? ⟨hb, 1, none⟩ = some (.slice A es.length cap) := by rw [← hW4]; exact HI.out.1.2.c.2
  have HW4 := Lib.hid (And.intro hW4 hbl)
  clear hW4 hbl B4 R3 H3
  go_wp2_with fail
  rw [← HW4.out.1, ← HW4.out.2]
  clear hmk y0 y1 y2 HW4
  go_loopg [23] es.length (fun gk si wr => ∃ k : Nat, si = .int .i64 k ∧ k ≤ es.length ∧ es.length - k ≤ gk ∧ Hid ((Below w.heap.size w wr ∧ HBZ wr hb n es.length cap A) ∧ (wr.rowIs bi 3 n (intRow (fun i => (v i).1)) ∧ wr.rowIs bo 3 n (intRow out)) ∧ wr.rowIs bl 3 es.length (intRow (fun j => if j < k then fEdge (es.map REd.plain) (fun i => (v i).1) out j else 0))))
  case atStart => exact ⟨0, rfl, by omega, by omega, HI.out⟩
  case round =>
    clear HI
    obtain ⟨k, rfl, hi, hk, HR⟩ := hrel
    by_cases hlt : k < es.length
    · skip
      as_aux_lemma =>
        have hlz : (k : Int) < (es.length : Int) := by omega
        obtain ⟨e, he⟩ : ∃ e, es[k]? = some e := ⟨_, List.getElem?_eq_getElem hlt⟩
        have hok := HOK.out e (List.mem_of_getElem? he)
        have HEK : Hid ((es.map REd.plain)[k]? = some e.plain) := by show _ = _; rw [List.getElem?_map, he]; rfl
        have hti := HA.out.tails e (List.mem_of_getElem? he)
        obtain ⟨eb0, eo, rfl, z0, z1, z2, z3, z4⟩ := HA.out.c HR.out.1.1 he
        obtain ⟨hn', hhn⟩ : ∃ x, e.head.toNat = x := ⟨_, rfl⟩
        have hhe : e.head = (hn' : Int) := by rw [← hhn, Int.toNat_of_nonneg hok.1]
        have hhl : hn' < n := by have := hok.2.1; omega
        have hph : e.plain.head = hn' := hhn
        obtain ⟨d, hd⟩ : ∃ x, out hn' = x := ⟨_, rfl⟩
        have hdo := outIs_ok HO.out.1 hn' hhl
        obtain ⟨m1, hm1⟩ : ∃ x, min (K.oth (fun i => (v i).1) e.plain.tails 0 (-1)) 1099511627776 = x := ⟨_, rfl⟩
        have hon := oth_none hok (sol_ok HS.out.1) (-1)
        have hcost : 0 ≤ e.cost ∧ e.cost ≤ 1099511627776 := ⟨hok.2.2.2.1, hok.2.2.2.2.1⟩
        have hpc : e.plain.cost = e.cost := rfl
        have hc : min (d + e.cost + m1) 1099511627776 = fEdge (es.map REd.plain) (fun i => (v i).1) out k := by
          unfold fEdge
          rw [HEK.out]
          show _ = min (out e.plain.head + e.plain.cost + K.oth (fun i => (v i).1) e.plain.tails 0 (-1)) 1099511627776
          rw [hph, hd, hpc, ← hm1]
          omega
        rw [hd] at hdo
        have C75 := Lib.hid (sum_three (a := d) (b := e.cost) (c := m1) hdo hcost (by rw [← hm1]; omega) hc)
        obtain ⟨W2, hW2⟩ : ∃ W, W = wr.alloc (.cells #[.int .i64 e.head, .slice e.A e.tails.length e.cap, .int .i64 e.cost, .int .i64 e.l0, .int .i64 e.l1] 60) := ⟨_, rfl⟩
        obtain ⟨xb, hxb⟩ : ∃ b, b = wr.heap.size := ⟨_, rfl⟩
        have B2 : Below wr.heap.size wr W2 := by rw [hW2]; exact (Below.refl _ _).alloc (Nat.le_refl _) _
        have X2 : Hid (EBX W2 xb e) := by show W2.heap[xb]? = _; rw [hW2, hxb]; exact heap_alloc_new wr _
        have R2 : Hid ((Below w.heap.size w W2 ∧ HBZ W2 hb n es.length cap (some ⟨eb0, eo, none⟩)) ∧ (W2.rowIs bi 3 n (intRow (fun i => (v i).1)) ∧ W2.rowIs bo 3 n (intRow out)) ∧ W2.rowIs bl 3 es.length (intRow (fun j => if j < k then fEdge (es.map REd.plain) (fun i => (v i).1) out j else 0))) :=
          ⟨⟨HR.out.1.1.trans (B2.mono HR.out.1.1.size), HR.out.1.2.bel B2⟩, ⟨row_below HR.out.2.1.1 B2, row_below HR.out.2.1.2 B2⟩, row_below HR.out.2.2 B2⟩
        have C86 : Hid (∀ W : World, Below W2.heap.size W2 W → Calls Try.prog 86 #[.agg #[.int .i64 e.head, .slice e.A e.tails.length e.cap, .int .i64 e.cost, .int .i64 e.l0, .int .i64 e.l1], .slice (some ⟨bi, 0, none⟩) n n, .int .i64 (-1)] W fun r w' => r = .returned (.int .i64 m1) ∧ Below W.heap.size W w') := fun W hW => by
          have h1 := others86 (w := W) (n := n) (bi := bi) (inn := fun i => (v i).1) e (-1) (fun q y hy => by
            obtain ⟨b', o', hA', hc'⟩ := hti.c (R2.out.1.1.trans (hW.mono R2.out.1.1.size)) hy
            exact ⟨b', o', hA', hc'⟩) (row_below R2.out.2.1.1 hW) hok (sol_ok HS.out.1)
          rw [hm1] at h1
          exact h1
        have x0 : Hid (W2.cell? ⟨xb, 0, none⟩ = some (.int .i64 hn')) := by show _ = _; rw [← hhe]; exact X2.out.c.1
        have o0 : Hid (W2.cell? ⟨bo, hn', none⟩ = some (.int .i64 d)) := by show _ = _; rw [← hd]; exact R2.out.2.1.2.cell hhl
        have l0 := Lib.hid (R2.out.2.2.cell hlt)
        have FZ : Hid (∀ W : World, Below W2.heap.size W2 W → W.frozen? ⟨bl, k, none⟩ = false) := fun W hW => (row_below R2.out.2.2 hW).frozen k
        have HW2 := Lib.hid (And.intro hW2 hxb)
        clear HR he hok hti hhn hhe hph hd hm1 hon hcost hpc hc hdo hW2 hxb B2
        go_wp2_with fail
        rw [← HW2.out.1, ← HW2.out.2]
        have hhz : (hn' : Int) < (n : Int) := by omega
        refine o59_r7 (fun _ _ _ _ _ h => h) hlz hhz x0.out o0.out X2.out.c.2.2.1 (box_range (L := [.int .i64 e.head, .slice e.A e.tails.length e.cap, .int .i64 e.cost, .int .i64 e.l0, .int .i64 e.l1]) X2.out 0 _ (fun j v h => by rw [Nat.zero_add]; exact h)) l0.out FZ C86 C75 ?_
        intro w8 b8 t28 t29 t30 t31 t32 t33 t34 t35 t36 t37 t38 t39 t40 t41 t42
        have N8 : Hid ((Below w.heap.size w (w8.setCell ⟨bl, k, none⟩ (.int .i64 (fEdge (es.map REd.plain) (fun i => (v i).1) out k))) ∧ HBZ (w8.setCell ⟨bl, k, none⟩ (.int .i64 (fEdge (es.map REd.plain) (fun i => (v i).1) out k))) hb n es.length cap (some ⟨eb0, eo, none⟩)) ∧ ((w8.setCell ⟨bl, k, none⟩ (.int .i64 (fEdge (es.map REd.plain) (fun i => (v i).1) out k))).rowIs bi 3 n (intRow (fun i => (v i).1)) ∧ (w8.setCell ⟨bl, k, none⟩ (.int .i64 (fEdge (es.map REd.plain) (fun i => (v i).1) out k))).rowIs bo 3 n (intRow out)) ∧ (w8.setCell ⟨bl, k, none⟩ (.int .i64 (fEdge (es.map REd.plain) (fun i => (v i).1) out k))).rowIs bl 3 es.length (intRow (fun j => if j < k + 1 then fEdge (es.map REd.plain) (fun i => (v i).1) out j else 0))) := by
          have he : Eff (fun k => k = bl) w8 (w8.setCell ⟨bl, k, none⟩ (.int .i64 (fEdge (es.map REd.plain) (fun i => (v i).1) out k))) := eff_setCell w8 bl k _
          have B8 := R2.out.1.1.trans (b8.mono R2.out.1.1.size)
          have h8 : w8.heap[hb]? = _ := R2.out.1.2.bel b8
          obtain ⟨cl, kl, _⟩ := row_below R2.out.2.2 b8
          exact ⟨⟨B8.trans (he.belowB B8.size (fun k hk => by rw [hk]; exact HG.out.1)), he.heap h8 (ne_of_type h8 kl (by decide))⟩, ⟨rowIs_eff (row_below R2.out.2.1.1 b8) he HG.out.2.1, rowIs_eff (row_below R2.out.2.1.2 b8) he HG.out.2.2⟩, row_next (g := fEdge (es.map REd.plain) (fun i => (v i).1) out) (h := fun _ => 0) (row_below R2.out.2.2 b8)⟩
        clear b8 x0 o0 l0 FZ C86 C75 X2 R2 HW2 z0 z1 z2 z3 z4
        go_wp2_with fail
        go_roundg (es.length - (k + 1))
        case measure => omega
        case rel => exact ⟨k + 1, by go_num, by omega, by omega, N8.out⟩
    · have hlz : ¬ (k : Int) < (es.length : Int) := by omega
      obtain rfl : es.length = k := by omega
      go_wp2_with fail
      go_ret
      exact ⟨bl, v, f, out, rfl, HS.out.1, HO.out.1, HR.out.2.2.congr (fun j hj => by show Value.int .i64 (if j < es.length then _ else 0) = Value.int .i64 _; rw [if_pos hj]), HR.out.1.1, HG.out.1⟩
end Go.Proofs.Ytepfbhigeghjjaa.Q
