/- The arguments of chapter 29's laws opened: a value, a slice of values. -/
import Derived.Test.YtepfbhigeghjjaaKM
import Derived.Deep.Slices
import Derived.Deep.Strs
namespace Go.Proofs.Ytepfbhigeghjjaa.Q.O29
open Go.ChangeShapes Go.WideShapes Go.Deep Go.RowKit
set_option linter.unusedVariables false
set_option linter.unusedSimpArgs false
theorem plain_addr {W : World} {a : Addr} {v : Value} (h : W.cell? a = some v) : a = ⟨a.block, a.off, none⟩ := by
  obtain ⟨b, o, s⟩ := a
  cases s with
  | none => rfl
  | some s =>
    simp only [World.cell?] at h
    split at h <;> simp at h
theorem range_of_cells {W : World} {base : Nat} {b o n : Nat} {cs : List Value} (h : W.cells? base ⟨b, o, none⟩ n = some cs) : W.rangeAt b o cs := by
  obtain ⟨_, hl, hc⟩ := World.cells?_some h
  intro j v hv
  have hj := (List.getElem?_eq_some_iff.1 hv).1
  have := hc j (by omega)
  rw [hv, Addr.add_mid] at this
  exact this
theorem elem_range {W : World} {base : Nat} {a : Addr} {i s : Nat} {cs : List Value} (hs : 0 < s) (h : W.cells? base (a.add (i * s)) s = some cs) (h0 : ∃ v, W.cell? a = some v) : ∃ b o, a = ⟨b, o, none⟩ ∧ W.rangeAt b (o + i * s) cs := by
  obtain ⟨v, h0⟩ := h0
  refine ⟨a.block, a.off, plain_addr h0, ?_⟩
  rw [plain_addr h0, Addr.add_mid] at h
  exact range_of_cells h
theorem two_of {cs : List Value} (h : cs.length = 2) : ∃ u v, cs = [u, v] := by
  match cs, h with
  | [u, v], _ => exact ⟨u, v, rfl⟩
theorem cells3 : Try.prog.cellsOf 3 = 1 := by kernel_rfl
theorem cells54 : Try.prog.cellsOf 54 = 2 := by kernel_rfl
theorem list_of_fn {α : Type} {p : Nat → α → Prop} {n : Nat} (h : ∀ i, i < n → ∃ x, p i x) : ∃ l : List α, l.length = n ∧ ∀ i x, l[i]? = some x → p i x := by
  induction n with
  | zero => exact ⟨[], rfl, fun i x hx => by simp at hx⟩
  | succ n ih =>
    obtain ⟨l, hl, hp⟩ := ih (fun i hi => h i (by omega))
    obtain ⟨x, hx⟩ := h n (by omega)
    refine ⟨l ++ [x], by simp [hl], fun i y hy => ?_⟩
    rcases Nat.lt_trichotomy i n with hi | hi | hi
    · rw [List.getElem?_append_left (by omega)] at hy
      exact hp i y hy
    · subst hi
      rw [List.getElem?_append_right (by omega), hl, Nat.sub_self] at hy
      cases hy
      exact hx
    · rw [List.getElem?_eq_none (by simp; omega)] at hy
      cases hy
theorem open_V {H : Type} {enc : TypeId × Value → H} {W : World} {base : Nat} {spare : Nat → Bool} {held : Bool} {fuel : Nat} {cs : List Value} {x : DataW H × List MemPlace} (h : DataW.trod enc Try.prog W base spare held fuel 54 cs = some x) : ∃ y : K.V, cs = encV y := by
  obtain ⟨y0, y1, n, _, hl, h0, h1⟩ := trod_struct2 Try.underlying54 h
  rw [cells54] at hl
  obtain ⟨u, v, rfl⟩ := two_of hl
  simp only [cells3, List.drop_zero, List.take_succ_cons, List.take_zero, List.drop_succ_cons] at h0 h1
  obtain ⟨a, ha, _⟩ := DataW.trod_int Try.underlying3 h0
  obtain ⟨b, hb, _⟩ := DataW.trod_int Try.underlying3 h1
  cases ha
  cases hb
  exact ⟨(a, b), rfl⟩
theorem open_vals {H : Type} {enc : TypeId × Value → H} {W : World} {fuel : Nat} {A : Option Addr} {len cap : Nat} {x : DataW H × List MemPlace} (h : DataW.trod enc Try.prog W 0 (fun _ => true) true fuel 62 [.slice A len cap] = some x) :
    ∃ l : List K.V, l.length = len ∧ ValsIn W A l := by
  rcases open_slice Try.underlying62 h with ⟨hcs, _⟩ | ⟨a, len', cap', m, n, D, Pl, hcs, _, hl, hm, hmm, _, hx⟩
  · cases hcs
    exact ⟨[], rfl, fun j o ho => by simp at ho⟩
  · cases hcs
    rw [cells54] at hx
    simp only [if_true] at hmm
    subst hmm
    refine list_of_fn (p := fun j o => ∃ ob oo, some a = some ⟨ob, oo, none⟩ ∧ W.rangeAt ob (oo + j * 2) (encV o)) (fun i hi => ?_)
    obtain ⟨cs', h1, h2⟩ := hx i (by omega)
    obtain ⟨o, rfl⟩ := open_V h2
    obtain ⟨c0, h3, _⟩ := hx 0 (by omega)
    obtain ⟨b, off, e, hr⟩ := elem_range (by decide) h1 (by
      obtain ⟨_, hl0, hc0⟩ := World.cells?_some h3
      have := hc0 0 (by decide)
      rw [Nat.zero_mul] at this
      obtain ⟨v, hv⟩ : ∃ v, c0[0]? = some v := ⟨_, List.getElem?_eq_getElem (by omega)⟩
      rw [hv] at this
      exact ⟨v, this⟩)
    exact ⟨o, b, off, by rw [e], hr⟩
end Go.Proofs.Ytepfbhigeghjjaa.Q.O29
