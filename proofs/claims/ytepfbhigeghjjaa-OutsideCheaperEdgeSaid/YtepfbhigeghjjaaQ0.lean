/- What a map from int to int, a row of entries and a priority queue are in memory; what the operations on them do. No program is named. -/
import Derived.MapKept
import Derived.Deep.Draws
import Derived.Below
import Derived.WalkKit
import Derived.RowKit
namespace Go.Proofs.Ytepfbhigeghjjaa.Q
open Go.RowKit Go.MapKept
set_option linter.unusedVariables false
set_option linter.unusedSimpArgs false

/-! ### The effect of an operation: all but the blocks of S is as it was -/
structure Eff (S : Nat → Prop) (w w' : World) : Prop where
  os : w'.os = w.os
  tape : w'.tape = w.tape
  output : w'.output = w.output
  size : w.heap.size ≤ w'.heap.size
  block : ∀ k, k < w.heap.size → ¬ S k → w'.heap[k]? = w.heap[k]?

section
variable {S T : Nat → Prop} {w w1 w2 : World}
theorem Eff.refl (S : Nat → Prop) (w : World) : Eff S w w := ⟨rfl, rfl, rfl, Nat.le_refl _, fun _ _ _ => rfl⟩
theorem Eff.trans (h : Eff S w w1) (k : Eff T w1 w2) (hs : ∀ i, T i → S i ∨ w.heap.size ≤ i) : Eff S w w2 :=
  ⟨k.os.trans h.os, k.tape.trans h.tape, k.output.trans h.output, Nat.le_trans h.size k.size, fun i hi hn =>
    (k.block i (Nat.lt_of_lt_of_le hi h.size) (fun ht => (hs i ht).elim hn (fun hh => by omega))).trans (h.block i hi hn)⟩
theorem Eff.mono (h : Eff S w w1) (hs : ∀ i, S i → T i ∨ w.heap.size ≤ i) : Eff T w w1 :=
  ⟨h.os, h.tape, h.output, h.size, fun i hi hn => h.block i hi (fun hh => (hs i hh).elim hn (fun h2 => by omega))⟩
theorem Eff.of_below (h : Below w.heap.size w w1) (S : Nat → Prop) : Eff S w w1 := ⟨h.os, h.tape, h.output, h.size, fun i hi _ => h.block i hi⟩
theorem Eff.below (h : Eff S w w1) (hs : ∀ i, S i → w.heap.size ≤ i) : Below w.heap.size w w1 := ⟨h.os, h.tape, h.output, h.size, fun i hi => h.block i hi (fun hh => by have := hs i hh; omega)⟩
theorem Eff.belowB {B : Nat} (h : Eff S w w1) (hB : B ≤ w.heap.size) (hs : ∀ i, S i → B ≤ i) : Below B w w1 := ⟨h.os, h.tape, h.output, h.size, fun i hi => h.block i (by omega) (fun hh => by have := hs i hh; omega)⟩
theorem Eff.of_grown {row : Option Nat} (h : w.grownBy w1 row) : Eff (fun k => some k = row) w w1 := ⟨h.os, h.tape, h.output, h.size, fun i hi hn => h.block i hi hn⟩
theorem Eff.drew (h : Eff S w w1) : Eff S w w1.drew := ⟨h.os, h.tape, h.output, h.size, h.block⟩
theorem Eff.drewN (h : Eff S w w1) (n : Nat) : Eff S w (w1.drewN n) := ⟨h.os, h.tape, h.output, h.size, h.block⟩
theorem Eff.alloc (h : Eff S w w1) (o : Obj) : Eff S w (w1.alloc o) :=
  h.trans (T := fun _ => False) (Eff.of_below ((Below.refl _ _).alloc (Nat.le_refl _) o) _) (fun _ hh => hh.elim)
theorem Eff.setCell (h : Eff S w w1) {p : Addr} (hp : S p.block ∨ w.heap.size ≤ p.block) (u : Value) : Eff S w (w1.setCell p u) :=
  h.trans (T := fun k => k = p.block) ⟨rfl, rfl, rfl, by simp [World.setCell], fun i _ hn => Below.heap_setCell w1 p u i hn⟩ (fun k hk => by rw [hk]; exact hp)
theorem Eff.heap (h : Eff S w w1) {k : Nat} {o : Obj} (hk : w.heap[k]? = some o) (hn : ¬ S k) : w1.heap[k]? = some o :=
  (h.block k (Array.getElem?_eq_some_iff.1 hk).1 hn).trans hk
theorem Eff.cell (h : Eff S w w1) {a : Addr} {v : Value} (hk : w.cell? a = some v) (hn : ¬ S a.block) : w1.cell? a = some v := by
  rw [World.cell?_of_block (h.block a.block (World.block_lt_of_cell? w a hk) hn)]; exact hk
end

/-! ### A map from int to int -/
def toE (x : Int × Int × Nat) : MapEntry := { key := .int .i64 x.1, val := .int .i64 x.2.1, born := x.2.2 }
def MapL (W : World) (mb : Nat) (l : List (Int × Int × Nat)) (clk : Nat) : Prop :=
  W.heap[mb]? = some (.map (l.map toE).toArray clk) ∧ (l.map (·.1)).Nodup ∧ (l.map (·.2.2)).Nodup ∧ ∀ x ∈ l, x.2.2 < clk
def getL (l : List (Int × Int × Nat)) (k : Int) : Option Int := (l.find? (·.1 == k)).map (·.2.1)
/-- Block mb is a map that has the value f k at each key k. -/
def MapAt (W : World) (mb : Nat) (f : Int → Option Int) : Prop := ∃ l clk, MapL W mb l clk ∧ ∀ k, f k = getL l k

theorem isKey_toE (l : List (Int × Int × Nat)) : ∀ x ∈ (l.map toE), IsKey (.int .i64) x.key := by
  intro x hx
  obtain ⟨y, _, rfl⟩ := List.mem_map.1 hx
  rfl

theorem findNow_toE (k : Int) : ∀ (l : List (Int × Int × Nat)) (i : Nat),
    (Instr.findNow (.int .i64) (.int .i64 k) (l.map toE) i = some none ∧ l.find? (·.1 == k) = none) ∨
    ∃ j x, Instr.findNow (.int .i64) (.int .i64 k) (l.map toE) i = some (some (i + j, .int .i64 x.2.1)) ∧ l[j]? = some x ∧ x.1 = k ∧ l.find? (·.1 == k) = some x
  | [], i => .inl ⟨rfl, rfl⟩
  | y :: l, i => by
    by_cases h : k = y.1
    · exact .inr ⟨0, y, by simp [Instr.findNow, toE, Instr.sameNow, h], rfl, h.symm, by simp [List.find?, h]⟩
    · have h2 : (k == y.1) = false := by simpa using h
      have h3 : (y.1 == k) = false := by simpa using fun e => h e.symm
      rcases findNow_toE k l (i + 1) with ⟨e1, e2⟩ | ⟨j, x, e1, e2, e3, e4⟩
      · exact .inl ⟨by simp [Instr.findNow, toE, Instr.sameNow, h2]; exact e1, by simp [List.find?, h3, e2]⟩
      · exact .inr ⟨j + 1, x, by simp [Instr.findNow, toE, Instr.sameNow, h2]; rw [show i + (j + 1) = i + 1 + j by omega]; exact e1, by simpa using e2, e3, by simp [List.find?, h3, e4]⟩

section
variable {P : Program} {W : World} {T K E : TypeId} {mb : Nat} {l : List (Int × Int × Nat)} {clk : Nat}

theorem run_lookupL (hT : P.underlying T = some (.map K E)) (hK : P.underlying K = some (.int .i64)) (hz : ∀ W, (zeroValue E).run P W = .ok (.int .i64 0) W)
    (h : MapL W mb l clk) (k : Int) (c : Bool) :
    (Instr.lookup T (.map (some mb)) (.int .i64 k) c).run P W = .ok (if c then .tuple #[.int .i64 ((getL l k).getD 0), .bool (getL l k).isSome] else .int .i64 ((getL l k).getD 0)) W := by
  have hd : IsKey (.int .i64) (.int .i64 k) := rfl
  rcases findNow_toE k l 0 with ⟨e1, e2⟩ | ⟨j, x, e1, e2, e3, e4⟩
  · simp [Instr.lookup, run_underlying hT, MapKept.run_getObj_map h.1, run_checkKey hK hd, run_findKey hK e1, hz, Result.andThen, getL, e2]
  · simp [Instr.lookup, run_underlying hT, MapKept.run_getObj_map h.1, run_checkKey hK hd, run_findKey hK e1, Result.andThen, getL, e4]

theorem modify_self {α : Type} (es : Array α) (j : Nat) (g : α → α) (hg : ∀ e, es[j]? = some e → g e = e) : es.modify j g = es := by
  apply Array.ext_getElem?
  intro i
  rw [Array.getElem?_modify]
  split
  · rename_i hij
    subst hij
    cases he : es[j]? with
    | none => rfl
    | some e => simp [hg e he]
  · rfl
theorem set_self {α : Type} (a : Array α) (i : Nat) (o : α) (h : a[i]? = some o) : a.setIfInBounds i o = a := by
  apply Array.ext_getElem?
  intro j
  rw [Array.getElem?_setIfInBounds]
  split
  · rename_i hij
    subst hij
    split
    · exact h.symm
    · rename_i h2
      exact absurd (Array.getElem?_eq_some_iff.1 h).1 h2
  · rfl

/-- An entry that is there: its value and its stamp; nothing turns. -/
theorem run_mapEntryL (hT : P.underlying T = some (.map K E)) (hK : P.underlying K = some (.int .i64))
    (h : MapL W mb l clk) (k : Int) (x : Int × Int × Nat) (hx : l.find? (·.1 == k) = some x) :
    (Instr.mapEntry T (.map (some mb)) (.int .i64 k)).run P W = .ok (.tuple #[.int .i64 x.2.1, .int .i64 x.2.2]) W := by
  have hd : IsKey (.int .i64) (.int .i64 k) := rfl
  rcases findNow_toE k l 0 with ⟨e1, e2⟩ | ⟨j, y, e1, e2, e3, e4⟩
  · rw [hx] at e2; cases e2
  · rw [hx] at e4
    cases e4
    have hj : (l.map toE).toArray[j]? = some (toE x) := by simp [e2]
    have hkey : (toE x).key = .int .i64 k := by simp [toE, e3]
    have hm : (l.map toE).toArray.modify j (fun e => { e with key := (.int .i64 k : Value) }) = (l.map toE).toArray := by
      refine modify_self _ _ _ (fun e he => ?_)
      rw [hj] at he
      cases he
      simp [toE, e3]
    have hs : ({ W with heap := W.heap.setIfInBounds mb (.map (l.map toE).toArray clk) } : World) = W := by
      rw [set_self _ _ _ h.1]
    simp only [Instr.mapEntry, Sem.run_bind, run_underlying hT, MapKept.run_getObj_map h.1, run_checkKey hK hd, run_findKey hK e1, Result.andThen, hj, Nat.zero_add, Option.map_some, Option.getD_some, hkey, run_keyThatStays hd, hm, MapKept.run_setObj_map _ h.1, hs]
    rfl

theorem run_entryStoreL (h : MapL W mb l clk) (x : Int × Int × Nat) (hx : x ∈ l) (v : Int) :
    ∃ W', (Instr.entryStore T (.map (some mb)) (.int .i64 x.2.2) (.int .i64 v)).run P W = .ok () W' ∧ Eff (fun k => k = mb) W W' ∧ W'.heap.size = W.heap.size ∧
      MapL W' mb (l.map fun y => if y.2.2 = x.2.2 then (y.1, v, y.2.2) else y) clk := by
  have hf : (l.map toE).toArray.findIdx? (fun e => (e.born : Int) == (x.2.2 : Int)) = l.findIdx? (fun y => y.2.2 == x.2.2) := by
    simp only [List.findIdx?_toArray, List.findIdx?_map]
    congr 1
    funext y
    simp only [toE, Function.comp]
    rw [Bool.eq_iff_iff]
    simp only [beq_iff_eq]
    omega
  obtain ⟨j, hj⟩ : ∃ j, l.findIdx? (fun y => y.2.2 == x.2.2) = some j := by
    rw [← Option.isSome_iff_exists, List.findIdx?_isSome]
    exact List.any_eq_true.2 ⟨x, hx, by simp⟩
  rw [hj] at hf
  obtain ⟨hlt, hp, hbefore⟩ := List.findIdx?_eq_some_iff_getElem.1 hj
  simp only [beq_iff_eq] at hp
  have hm : (l.map toE).toArray.modify j (fun e => { e with val := (.int .i64 v : Value) }) = ((l.map fun y => if y.2.2 = x.2.2 then (y.1, v, y.2.2) else y).map toE).toArray := by
    apply Array.ext_getElem?
    intro i
    rw [Array.getElem?_modify]
    simp only [List.getElem?_toArray, List.getElem?_map]
    by_cases hij : j = i
    · subst hij
      simp [hlt, hp, toE]
    · simp only [hij, if_false]
      rcases Nat.lt_or_ge i l.length with hi | hi
      · have hne : l[i].2.2 ≠ x.2.2 := by
          intro he
          have hnd := (List.nodup_iff_pairwise_ne.1 h.2.2.1)
          rw [List.pairwise_iff_getElem] at hnd
          rcases Nat.lt_or_gt_of_ne hij with hlt2 | hlt2
          · exact hnd j i (by simpa using hlt) (by simpa using hi) hlt2 (by simp [he, hp])
          · exact hnd i j (by simpa using hi) (by simpa using hlt) hlt2 (by simp [he, hp])
        simp [hi, hne]
      · simp [List.getElem?_eq_none hi]
  refine ⟨{ W with heap := W.heap.setIfInBounds mb (.map ((l.map fun y => if y.2.2 = x.2.2 then (y.1, v, y.2.2) else y).map toE).toArray clk) }, ?_, ?_, by simp, ?_⟩
  · simp only [Instr.entryStore, Sem.run_bind, MapKept.run_getObj_map h.1, asInt, asIntOf, Result.andThen]
    simp only [Sem.run_bind, Sem.run_pure, Result.andThen, hf, hm]
    exact MapKept.run_setObj_map _ h.1
  · exact ⟨rfl, rfl, rfl, by simp, fun k hk hn => by simp [Ne.symm hn]⟩
  · refine ⟨(heap_set h.1).1, ?_, ?_, ?_⟩
    · have : (l.map fun y => if y.2.2 = x.2.2 then (y.1, v, y.2.2) else y).map (·.1) = l.map (·.1) := by
        rw [List.map_map]; apply List.map_congr_left; intro y _; simp only [Function.comp]; split <;> rfl
      rw [this]; exact h.2.1
    · have : (l.map fun y => if y.2.2 = x.2.2 then (y.1, v, y.2.2) else y).map (·.2.2) = l.map (·.2.2) := by
        rw [List.map_map]; apply List.map_congr_left; intro y _; simp only [Function.comp]; split <;> rfl
      rw [this]; exact h.2.2.1
    · intro y hy
      obtain ⟨z, hz, rfl⟩ := List.mem_map.1 hy
      split
      · exact h.2.2.2 z hz
      · exact h.2.2.2 z hz
end

/-- What a store at an entry does to the map's values. -/
theorem getL_store {l : List (Int × Int × Nat)} (hk : (l.map (·.1)).Nodup) (hb : (l.map (·.2.2)).Nodup) {x : Int × Int × Nat} (hx : x ∈ l) (v k : Int) :
    getL (l.map fun y => if y.2.2 = x.2.2 then (y.1, v, y.2.2) else y) k = if k = x.1 then some v else getL l k := by
  induction l with
  | nil => cases hx
  | cons y l ih =>
    simp only [List.map_cons, List.nodup_cons] at hk hb
    simp only [List.mem_cons] at hx
    by_cases hyx : y.2.2 = x.2.2
    · have : x = y := by
        rcases hx with hx | hx
        · exact hx
        · exact absurd (List.mem_map.2 ⟨x, hx, hyx.symm⟩) hb.1
      subst this
      simp only [List.map_cons, if_true, getL, List.find?]
      by_cases hkx : k = x.1
      · simp [hkx]
      · have h3 : (x.1 == k) = false := by simpa using fun e => hkx e.symm
        simp only [h3, hkx, if_false]
        have : ∀ z ∈ l, z.2.2 ≠ x.2.2 := fun z hz e => hb.1 (List.mem_map.2 ⟨z, hz, e⟩)
        congr 2
        refine (List.map_congr_left (g := id) (fun z hz => by simp [this z hz])).trans (by simp)
    · have hxl : x ∈ l := by
        rcases hx with hx | hx
        · subst hx; exact absurd rfl hyx
        · exact hx
      have hxy : y.1 ≠ x.1 := fun e => hk.1 (List.mem_map.2 ⟨x, hxl, e.symm⟩)
      simp only [List.map_cons, hyx, if_false]
      simp only [getL, List.find?] at ih ⊢
      by_cases hky : y.1 = k
      · have h4 : k ≠ x.1 := by rw [← hky]; exact hxy
        simp [hky, h4]
      · have h3 : (y.1 == k) = false := by simpa using hky
        simp only [h3]
        exact ih hk.2 hb.2 hxl


section
variable {P : Program} {W : World} {T K E : TypeId} {mb : Nat} {l : List (Int × Int × Nat)} {clk : Nat}

/-- A new key. -/
theorem run_mapUpdateL (hT : P.underlying T = some (.map K E)) (hK : P.underlying K = some (.int .i64))
    (h : MapL W mb l clk) (k v : Int) (hx : l.find? (·.1 == k) = none) :
    ∃ W', (Instr.mapUpdate T (.map (some mb)) (.int .i64 k) (.int .i64 v)).run P W = .ok () W' ∧ Eff (fun b => b = mb) W W' ∧ W'.heap.size = W.heap.size ∧ MapL W' mb (l ++ [(k, v, clk)]) (clk + 1) := by
  have hd : IsKey (.int .i64) (.int .i64 k) := rfl
  rcases findNow_toE k l 0 with ⟨e1, e2⟩ | ⟨j, y, e1, e2, e3, e4⟩
  · refine ⟨{ W with heap := W.heap.setIfInBounds mb (.map ((l ++ [(k, v, clk)]).map toE).toArray (clk + 1)) }, ?_, ⟨rfl, rfl, rfl, by simp, fun b hb hn => by simp [Ne.symm hn]⟩, by simp, (heap_set h.1).1, ?_, ?_, ?_⟩
    · simp [Instr.mapUpdate, run_underlying hT, MapKept.run_getObj_map h.1, run_checkKey hK hd, run_findKey hK e1, Result.andThen, MapKept.run_setObj_map _ h.1, toE]
    · rw [List.map_append]
      refine List.nodup_append.2 ⟨h.2.1, by simp, ?_⟩
      intro a ha b hb
      simp only [List.map_cons, List.map_nil, List.mem_singleton] at hb
      subst hb
      obtain ⟨z, hz, rfl⟩ := List.mem_map.1 ha
      have := List.find?_eq_none.1 hx z hz
      simpa using this
    · rw [List.map_append]
      refine List.nodup_append.2 ⟨h.2.2.1, by simp, ?_⟩
      intro a ha b hb
      simp only [List.map_cons, List.map_nil, List.mem_singleton] at hb
      subst hb
      obtain ⟨z, hz, rfl⟩ := List.mem_map.1 ha
      exact Nat.ne_of_lt (h.2.2.2 z hz)
    · intro x hx
      rcases List.mem_append.1 hx with hx | hx
      · exact Nat.lt_succ_of_lt (h.2.2.2 x hx)
      · simp only [List.mem_singleton] at hx
        subst hx
        exact Nat.lt_succ_self _
  · rw [hx] at e4; cases e4

theorem getL_snoc (l : List (Int × Int × Nat)) (k v : Int) (c : Nat) (hx : l.find? (·.1 == k) = none) (k' : Int) : getL (l ++ [(k, v, c)]) k' = if k' = k then some v else getL l k' := by
  unfold getL
  rw [List.find?_append]
  by_cases hk : k' = k
  · subst hk
    simp [hx]
  · have h3 : (k == k') = false := by simpa using fun e => hk e.symm
    simp [hk, List.find?, h3]

theorem getL_erase : ∀ (l : List (Int × Int × Nat)) (j : Nat) (x : Int × Int × Nat), (l.map (·.1)).Nodup → l[j]? = some x → ∀ k', getL (l.eraseIdx j) k' = if k' = x.1 then none else getL l k'
  | [], j, x, _, h, _ => by simp at h
  | y :: l, 0, x, hn, h, k' => by
    simp at h
    subst h
    simp only [List.map_cons, List.nodup_cons] at hn
    simp only [List.eraseIdx_cons_zero]
    by_cases hk : k' = y.1
    · subst hk
      simp only [if_true, getL]
      have : l.find? (·.1 == y.1) = none := List.find?_eq_none.2 (fun z hz => by
        simp only [beq_iff_eq]
        exact fun e => hn.1 (List.mem_map.2 ⟨z, hz, e⟩))
      rw [this]; rfl
    · have h3 : (y.1 == k') = false := by simpa using fun e => hk e.symm
      simp [hk, getL, List.find?, h3]
  | y :: l, j + 1, x, hn, h, k' => by
    simp only [List.getElem?_cons_succ] at h
    simp only [List.map_cons, List.nodup_cons] at hn
    simp only [List.eraseIdx_cons_succ]
    have ih := getL_erase l j x hn.2 h k'
    have hxy : y.1 ≠ x.1 := fun e => hn.1 (List.mem_map.2 ⟨x, List.mem_of_getElem? h, e.symm⟩)
    simp only [getL, List.find?] at ih ⊢
    by_cases hk : y.1 = k'
    · have h4 : k' ≠ x.1 := by rw [← hk]; exact hxy
      simp [hk, h4]
    · have h3 : (y.1 == k') = false := by simpa using hk
      simp only [h3]
      exact ih

theorem run_deleteL (hT : P.underlying T = some (.map K E)) (hK : P.underlying K = some (.int .i64))
    (h : MapL W mb l clk) (k : Int) (ts : Array TypeId) (hts : ts[0]? = some T) (ty : TypeId) :
    ∃ W' l', (Builtin.delete_ ts ty #[.map (some mb), .int .i64 k]).run P W = .ok (.tuple #[]) W' ∧ Eff (fun b => b = mb) W W' ∧ W'.heap.size = W.heap.size ∧ MapL W' mb l' clk ∧
      ∀ k', getL l' k' = if k' = k then none else getL l k' := by
  have hd : IsKey (.int .i64) (.int .i64 k) := rfl
  rcases findNow_toE k l 0 with ⟨e1, e2⟩ | ⟨j, y, e1, e2, e3, e4⟩
  · refine ⟨{ W with heap := W.heap.setIfInBounds mb (.map (l.map toE).toArray clk) }, l, ?_, ⟨rfl, rfl, rfl, by simp, fun b hb hn => by simp [Ne.symm hn]⟩, by simp, ⟨(heap_set h.1).1, h.2⟩, ?_⟩
    · simp [Builtin.delete_, hts, run_underlying hT, MapKept.run_getObj_map h.1, run_checkKey hK hd, run_findKey hK e1, Result.andThen, MapKept.run_setObj_map _ h.1]
    · intro k'
      by_cases hk : k' = k
      · subst hk; simp [getL, e2]
      · simp [hk]
  · have he : (l.map toE).eraseIdx j = (l.eraseIdx j).map toE := by simp [List.eraseIdx_eq_take_drop_succ]
    refine ⟨{ W with heap := W.heap.setIfInBounds mb (.map ((l.eraseIdx j).map toE).toArray clk) }, l.eraseIdx j, ?_, ⟨rfl, rfl, rfl, by simp, fun b hb hn => by simp [Ne.symm hn]⟩, by simp, ⟨(heap_set h.1).1, ?_, ?_, ?_⟩, ?_⟩
    · simp [Builtin.delete_, hts, run_underlying hT, MapKept.run_getObj_map h.1, run_checkKey hK hd, run_findKey hK e1, Result.andThen, MapKept.run_setObj_map _ h.1, he]
    · exact ((List.eraseIdx_sublist l j).map _).nodup h.2.1
    · exact ((List.eraseIdx_sublist l j).map _).nodup h.2.2.1
    · exact fun x hx => h.2.2.2 x ((List.eraseIdx_sublist l j).subset hx)
    · intro k'
      have := getL_erase l j y h.2.1 e2 k'
      rw [e3] at this
      exact this
end

theorem MapL.eff {S : Nat → Prop} {W W' : World} {mb : Nat} {l : List (Int × Int × Nat)} {clk : Nat} (h : MapL W mb l clk) (he : Eff S W W') (hn : ¬ S mb) : MapL W' mb l clk := ⟨he.heap h.1 hn, h.2⟩
theorem MapAt.eff {S : Nat → Prop} {W W' : World} {mb : Nat} {f : Int → Option Int} (h : MapAt W mb f) (he : Eff S W W') (hn : ¬ S mb) : MapAt W' mb f := by
  obtain ⟨l, clk, hl, hf⟩ := h
  exact ⟨l, clk, hl.eff he hn, hf⟩

/-! ### Entries of a queue, and their row -/
structure En (α : Type) where
  x : α
  h : Int
  t : Int
class Cells (α : Type) where
  sz : Nat
  cs : α → List Value
  len : ∀ x, (cs x).length = sz
  one : ∀ x, ∀ v ∈ cs x, v.oneCell' = true
def enc {α : Type} [Cells α] (e : En α) : List Value := Cells.cs e.x ++ [.int .i64 e.h, .int .i64 e.t]
def esz (α : Type) [Cells α] : Nat := Cells.sz α + 2
section
variable {α : Type} [Cells α]
theorem enc_length (e : En α) : (enc e).length = esz α := by simp [enc, esz, Cells.len]
theorem enc_all (e : En α) : (enc e).toArray.all (·.oneCell') = true := by
  refine Array.all_eq_true_iff_forall_mem.2 (fun v hv => ?_)
  simp only [enc, List.mem_toArray, List.mem_append, List.mem_cons, List.not_mem_nil, or_false] at hv
  rcases hv with hv | rfl | rfl
  · exact Cells.one _ v hv
  · rfl
  · rfl
def flat (es : List (En α)) : List Value := es.flatMap enc
theorem flat_length (es : List (En α)) : (flat es).length = es.length * esz α := by
  induction es with
  | nil => simp [flat]
  | cons e es ih => simp only [flat, List.flatMap_cons, List.length_append, enc_length, List.length_cons] at ih ⊢; rw [ih, Nat.add_mul, Nat.one_mul, Nat.add_comm]
theorem flat_get (es : List (En α)) (i k : Nat) (hk : k < esz α) : (flat es)[i * esz α + k]? = (es[i]?).bind fun e => (enc e)[k]? := by
  induction es generalizing i with
  | nil => simp [flat]
  | cons e es ih =>
    cases i with
    | zero => simp [flat, List.getElem?_append, enc_length, hk]
    | succ i =>
      simp only [flat, List.flatMap_cons] at ih ⊢
      rw [List.getElem?_append_right (by rw [enc_length, Nat.add_mul]; omega), enc_length, show (i + 1) * esz α + k - esz α = i * esz α + k by rw [Nat.add_mul]; omega]
      simpa using ih i
theorem flat_ext {L : List Value} {es : List (En α)} (hl : L.length = es.length * esz α) (h : ∀ i k, i < es.length → k < esz α → L[i * esz α + k]? = (es[i]?).bind fun e => (enc e)[k]?) : L = flat es := by
  have h0 : 0 < esz α := by unfold esz; omega
  apply List.ext_getElem?
  intro m
  rcases Nat.lt_or_ge m L.length with hm | hm
  · have hd : m / esz α < es.length := by
      rw [Nat.div_lt_iff_lt_mul h0, ← hl]; exact hm
    have hr := Nat.mod_lt m h0
    have e : m = m / esz α * esz α + m % esz α := by rw [Nat.mul_comm]; exact (Nat.div_add_mod m _).symm
    rw [e, h _ _ hd hr, flat_get _ _ _ hr]
  · rw [List.getElem?_eq_none hm, List.getElem?_eq_none (by rw [flat_length, ← hl]; exact hm)]

/-- A list with some cells of element i laid anew. -/
def setAt (L : List Value) (o : Nat) : List Value → List Value
  | [] => L
  | v :: vs => setAt (L.set o v) (o + 1) vs
theorem setAt_length (vs : List Value) : ∀ (L : List Value) (o : Nat), (setAt L o vs).length = L.length := by
  induction vs with
  | nil => intro L o; rfl
  | cons v vs ih => intro L o; simp [setAt, ih]
theorem setAt_get (vs : List Value) : ∀ (L : List Value) (o m : Nat), o + vs.length ≤ L.length → (setAt L o vs)[m]? = if o ≤ m ∧ m < o + vs.length then vs[m - o]? else L[m]? := by
  induction vs with
  | nil => intro L o m _; simp [setAt]; intro h1 h2; omega
  | cons v vs ih =>
    intro L o m hl
    simp only [List.length_cons] at hl
    simp only [setAt, ih _ _ _ (by simp; omega : o + 1 + vs.length ≤ (L.set o v).length), List.length_cons]
    by_cases h1 : o + 1 ≤ m ∧ m < o + 1 + vs.length
    · rw [if_pos h1, if_pos (by omega), show m - o = (m - (o + 1)) + 1 by omega]; rfl
    · rw [if_neg h1, List.getElem?_set]
      by_cases h2 : o = m
      · subst h2
        rw [if_pos rfl, if_pos (by omega), if_pos (by omega)]
        simp
      · rw [if_neg h2, if_neg (by omega)]
theorem setAt_flat (es : List (En α)) (i : Nat) (hi : i < es.length) (e : En α) : setAt (flat es) (i * esz α) (enc e) = flat (es.set i e) := by
  have hle : (i + 1) * esz α ≤ es.length * esz α := Nat.mul_le_mul_right _ (by omega)
  rw [Nat.add_mul, Nat.one_mul] at hle
  refine flat_ext (by rw [setAt_length, flat_length]; simp) (fun j k hj hk => ?_)
  simp only [List.length_set] at hj
  rw [setAt_get _ _ _ _ (by rw [enc_length, flat_length]; omega), enc_length, List.getElem?_set, flat_get _ _ _ hk]
  by_cases hij : i = j
  · subst hij
    rw [if_pos (by omega), if_pos rfl, if_pos hi, show i * esz α + k - i * esz α = k by omega]
    rfl
  · rw [if_neg hij, if_neg]
    intro ⟨h1, h2⟩
    rcases Nat.lt_or_gt_of_ne hij with h | h
    · have : (i + 1) * esz α ≤ j * esz α := Nat.mul_le_mul_right _ h
      rw [Nat.add_mul] at this; omega
    · have : (j + 1) * esz α ≤ i * esz α := Nat.mul_le_mul_right _ h
      rw [Nat.add_mul] at this; omega
end
end Go.Proofs.Ytepfbhigeghjjaa.Q
