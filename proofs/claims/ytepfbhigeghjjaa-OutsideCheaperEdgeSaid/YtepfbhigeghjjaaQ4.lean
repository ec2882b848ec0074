/- A heap of entries: what an exchange does to its order. Plain. -/
import Derived.Test.YtepfbhigeghjjaaQ2
namespace Go.Proofs.Ytepfbhigeghjjaa.Q
open Go.RowKit
set_option linter.unusedVariables false
set_option linter.unusedSimpArgs false
section
variable {α : Type} [Lt α]
/-- The entry at p does not leave behind the one at c. -/
def Ord (es : List (En α)) (p c : Nat) : Prop := ∀ a b, es[p]? = some a → es[c]? = some b → bef b a = false
/-- Every element but the root stands behind its parent. -/
def Heap (es : List (En α)) : Prop := ∀ c, 0 < c → c < es.length → Ord es ((c - 1) / 2) c
/-- But for the pairs that i is in; its parent stands before its children. -/
def HeapX (es : List (En α)) (i : Nat) : Prop :=
  (∀ c, 0 < c → c < es.length → c ≠ i → (c - 1) / 2 ≠ i → Ord es ((c - 1) / 2) c) ∧ (∀ c, 0 < c → c < es.length → (c - 1) / 2 = i → 0 < i → Ord es ((i - 1) / 2) c)
/-- But for the pairs of i and its children. -/
def HeapD (es : List (En α)) (i : Nat) : Prop :=
  (∀ c, 0 < c → c < es.length → (c - 1) / 2 ≠ i → Ord es ((c - 1) / 2) c) ∧ (∀ c, 0 < c → c < es.length → (c - 1) / 2 = i → 0 < i → Ord es ((i - 1) / 2) c)
def Kids (es : List (En α)) (i : Nat) : Prop := ∀ c, 0 < c → c < es.length → (c - 1) / 2 = i → Ord es i c
theorem heap_of {es : List (En α)} {i : Nat} (h : HeapD es i) (k : Kids es i) : Heap es := fun c h0 hc => by
  by_cases he : (c - 1) / 2 = i
  · rw [he]; exact k c h0 hc he
  · exact h.1 c h0 hc he
theorem Ord.trans {es : List (En α)} {p q r : Nat} (h : Ord es p q) (k : Ord es q r) (hq : q < es.length) : Ord es p r := fun a c ha hc => by
  have h1 := h a _ ha (List.getElem?_eq_getElem hq)
  have h2 := k _ c (List.getElem?_eq_getElem hq) hc
  rw [nbef_iff] at *
  omega
theorem up_stop {es : List (En α)} {i : Nat} (h : HeapX es i) (hp : 0 < i → Ord es ((i - 1) / 2) i) : HeapD es i :=
  ⟨fun c h0 hc hne => by
    by_cases he : c = i
    · subst he; exact hp h0
    · exact h.1 c h0 hc he hne, h.2⟩
section
variable {es : List (En α)} {i j : Nat} {a b : En α}
theorem ord_swp (hi : es[i]? = some a) (hj : es[j]? = some b) {p c : Nat} (h : ∀ x y, (if p = j then some a else if p = i then some b else es[p]?) = some x → (if c = j then some a else if c = i then some b else es[c]?) = some y → bef y x = false) : Ord (swp es i j) p c := by
  intro x y hx hy
  rw [swp_get hi hj] at hx hy
  exact h x y hx hy
/-- One round of the way up. -/
theorem up_round (h : HeapX es i) (h0 : 0 < i) (hi : es[i]? = some a) (hj : es[(i - 1) / 2]? = some b) (hb : bef a b = true) : HeapX (swp es i ((i - 1) / 2)) ((i - 1) / 2) := by
  have hil : i < es.length := (List.getElem?_eq_some_iff.1 hi).1
  refine ⟨fun c hc0 hc hne hpne => ?_, fun c hc0 hc hpc hp0 => ?_⟩
  · rw [swp_length] at hc
    refine ord_swp hi hj (fun x y hx hy => ?_)
    rw [if_neg hpne] at hx
    rw [if_neg hne] at hy
    by_cases hci : c = i
    · subst hci; exact absurd rfl hpne
    · rw [if_neg hci] at hy
      by_cases hpi : (c - 1) / 2 = i
      · rw [if_pos hpi] at hx
        cases hx
        exact h.2 c hc0 hc hpi h0 _ _ hj hy
      · rw [if_neg hpi] at hx
        exact h.1 c hc0 hc hci hpi x y hx hy
  · rw [swp_length] at hc
    have hpp : ((i - 1) / 2 - 1) / 2 ≠ (i - 1) / 2 := by omega
    have hpi : ((i - 1) / 2 - 1) / 2 ≠ i := by omega
    refine ord_swp hi hj (fun x y hx hy => ?_)
    rw [if_neg hpp, if_neg hpi] at hx
    have hg : Ord es (((i - 1) / 2 - 1) / 2) ((i - 1) / 2) := h.1 ((i - 1) / 2) hp0 (by omega) (by omega) hpi
    rw [if_neg (by omega)] at hy
    by_cases hci : c = i
    · rw [if_pos hci] at hy
      cases hy
      exact hg x b hx hj
    · rw [if_neg hci] at hy
      have h1 := h.1 c hc0 hc hci (by omega)
      rw [hpc] at h1
      exact (hg.trans h1 (by omega)) x y hx hy
theorem up_kids (h : HeapX es i) (k : Kids es i) (h0 : 0 < i) (hi : es[i]? = some a) (hj : es[(i - 1) / 2]? = some b) (hb : bef a b = true) : Kids (swp es i ((i - 1) / 2)) ((i - 1) / 2) := by
  have hil : i < es.length := (List.getElem?_eq_some_iff.1 hi).1
  intro c hc0 hc hpc
  rw [swp_length] at hc
  refine ord_swp hi hj (fun x y hx hy => ?_)
  rw [if_pos rfl] at hx
  cases hx
  rw [if_neg (by omega)] at hy
  by_cases hci : c = i
  · rw [if_pos hci] at hy
    cases hy
    rw [bef_iff] at hb
    rw [nbef_iff]
    omega
  · rw [if_neg hci] at hy
    have h1 := h.1 c hc0 hc hci (by omega)
    rw [hpc] at h1
    have h2 := h1 b y hj hy
    rw [bef_iff] at hb
    rw [nbef_iff] at *
    omega
/-- One round of the way down: j is a child of i that leaves before i and not behind its brother. -/
theorem down_round (h : HeapD es i) (hi : es[i]? = some a) (hj : es[j]? = some b) (hpj : (j - 1) / 2 = i) (hj0 : 0 < j) (hb : bef b a = true) (hs : ∀ c, 0 < c → c < es.length → (c - 1) / 2 = i → Ord es j c) : HeapD (swp es i j) j := by
  have hil : i < es.length := (List.getElem?_eq_some_iff.1 hi).1
  have hjl : j < es.length := (List.getElem?_eq_some_iff.1 hj).1
  have hij : i ≠ j := by omega
  refine ⟨fun c hc0 hc hne => ?_, fun c hc0 hc hpc hp0 => ?_⟩
  · rw [swp_length] at hc
    refine ord_swp hi hj (fun x y hx hy => ?_)
    rw [if_neg hne] at hx
    by_cases hcj : c = j
    · rw [if_pos hcj] at hy
      cases hy
      rw [if_pos (by omega)] at hx
      cases hx
      rw [bef_iff] at hb
      rw [nbef_iff]
      omega
    · rw [if_neg hcj] at hy
      by_cases hci : c = i
      · rw [if_pos hci] at hy
        cases hy
        rw [if_neg (by omega)] at hx
        have := h.2 j hj0 hjl hpj (by omega)
        rw [← hci] at this
        exact this x b hx hj
      · rw [if_neg hci] at hy
        by_cases hpi : (c - 1) / 2 = i
        · rw [if_pos hpi] at hx
          cases hx
          exact hs c hc0 hc hpi b y hj hy
        · rw [if_neg hpi] at hx
          exact h.1 c hc0 hc hpi x y hx hy
  · rw [swp_length] at hc
    rw [hpj]
    refine ord_swp hi hj (fun x y hx hy => ?_)
    rw [if_neg hij, if_pos rfl] at hx
    cases hx
    rw [if_neg (by omega), if_neg (by omega)] at hy
    have h1 := h.1 c hc0 hc (by omega)
    rw [hpc] at h1
    exact h1 b y hj hy
end
/-- The first element leaves before all others. -/
theorem heap_first {es : List (En α)} (h : Heap es) : ∀ c, c < es.length → Ord es 0 c := by
  intro c
  induction c using Nat.strongRecOn with
  | _ c ih =>
    intro hc
    by_cases h0 : c = 0
    · subst h0
      intro a b ha hb
      rw [ha] at hb
      cases hb
      rw [nbef_iff]
      omega
    · exact (ih ((c - 1) / 2) (by omega) (by omega)).trans (h c (by omega) hc) (by omega)
end
section
variable {α : Type} [Lt α]
/-- l is the least of i and those of its children that stand before c. -/
structure Least (es : List (En α)) (i c l : Nat) : Prop where
  child : l ≠ i → (l - 1) / 2 = i ∧ 0 < l ∧ l < es.length
  lt : l = i ∨ l < c ∧ l < es.length
  less : l ≠ i → ∀ x y, es[l]? = some x → es[i]? = some y → bef x y = true
  min : ∀ x, x = i ∨ (0 < x ∧ x < c ∧ x < es.length ∧ (x - 1) / 2 = i) → Ord es l x
theorem least_start (es : List (En α)) (i : Nat) : Least es i (2 * i + 1) i :=
  ⟨fun h => absurd rfl h, .inl rfl, fun h => absurd rfl h, fun x hx => by
    have : x = i := by omega
    subst this
    intro a b ha hb
    rw [ha] at hb
    cases hb
    rw [nbef_iff]
    omega⟩
theorem Least.yes {es : List (En α)} {i c l : Nat} {a b : En α} (h : Least es i c l) (hc : (c - 1) / 2 = i ∧ 0 < c) (ha : es[c]? = some a) (hb : es[l]? = some b) (hab : bef a b = true) : Least es i (c + 1) c := by
  have hcl : c < es.length := (List.getElem?_eq_some_iff.1 ha).1
  refine ⟨fun _ => ⟨hc.1, hc.2, hcl⟩, .inr ⟨by omega, hcl⟩, fun _ x y hx hy => ?_, fun x hx => ?_⟩
  · rw [ha] at hx
    cases hx
    by_cases hl : l = i
    · subst hl
      rw [hb] at hy
      cases hy
      exact hab
    · have := h.less hl b y hb hy
      rw [bef_iff] at *
      omega
  · intro x' y hx' hy
    rw [ha] at hx'
    cases hx'
    by_cases hxc : x = c
    · subst hxc
      rw [ha] at hy
      cases hy
      rw [nbef_iff]
      omega
    · have := h.min x (by omega) b y hb hy
      rw [bef_iff] at hab
      rw [nbef_iff] at *
      omega
theorem Least.no {es : List (En α)} {i c l : Nat} {a b : En α} (h : Least es i c l) (ha : es[c]? = some a) (hb : es[l]? = some b) (hab : bef a b = false) : Least es i (c + 1) l := by
  refine ⟨h.child, h.lt.imp id (fun hh => ⟨by omega, hh.2⟩), h.less, fun x hx => ?_⟩
  by_cases hxc : x = c ∧ x ≠ i
  · obtain ⟨rfl, _⟩ := hxc
    intro x' y hx' hy
    rw [hb] at hx'
    cases hx'
    rw [ha] at hy
    cases hy
    exact hab
  · exact h.min x (by omega)
end
section
variable {α : Type}
theorem hidx_snoc (es : List (En α)) (e : En α) (hn : ∀ x ∈ es, x.h ≠ e.h) (k : Int) : (if k = e.h then some (es.length : Int) else hidx es k) = hidx (es ++ [e]) k := by
  unfold hidx
  rw [List.findIdx?_append]
  by_cases hk : k = e.h
  · subst hk
    have : es.findIdx? (fun x => x.h == e.h) = none := List.findIdx?_eq_none_iff.2 (fun x hx => by simpa using hn x hx)
    simp [this]
  · have h3 : (e.h == k) = false := by simpa using fun h => hk h.symm
    rw [if_neg hk]
    cases es.findIdx? (fun x => x.h == k) <;> simp [List.findIdx?, List.findIdx?.go, h3]
theorem nodup_snoc {es : List (En α)} {e : En α} (hn : (es.map (·.h)).Nodup) (h : ∀ x ∈ es, x.h ≠ e.h) : ((es ++ [e]).map (·.h)).Nodup := by
  rw [List.map_append]
  refine List.nodup_append.2 ⟨hn, by simp, ?_⟩
  intro a ha b hb
  simp only [List.map_cons, List.map_nil, List.mem_singleton] at hb
  subst hb
  obtain ⟨z, hz, rfl⟩ := List.mem_map.1 ha
  exact h z hz
variable [Lt α]
theorem heap_snoc {es : List (En α)} {e : En α} (h : Heap es) : HeapX (es ++ [e]) es.length := by
  refine ⟨fun c h0 hc hne hp a b ha hb => ?_, fun c h0 hc hp _ => ?_⟩
  · rw [List.length_append] at hc
    simp only [List.length_cons, List.length_nil] at hc
    rw [List.getElem?_append_left (by omega)] at ha hb
    exact h c h0 (by omega) a b ha hb
  · rw [List.length_append] at hc
    simp only [List.length_cons, List.length_nil] at hc
    omega
theorem kids_snoc (es : List (En α)) (e : En α) : Kids (es ++ [e]) es.length := by
  intro c h0 hc hp
  rw [List.length_append] at hc
  simp only [List.length_cons, List.length_nil] at hc
  omega
end
/-- What the way up leaves. -/
def UpPost {α : Type} [Cells α] [Lt α] (tq te : TypeId) (lv : Value) (B : Nat) (w : World) (g : Nat) (hv : Value) (mb : Nat) (es : List (En α)) (nx ck : Int) (i : Nat) (e : En α) (r : Ending) (w' : World) : Prop :=
  r = .returned (.tuple #[]) ∧ ∃ (es' : List (En α)) (p : Nat), IsQ tq te lv B w' g hv mb es' nx ck ∧ es'.Perm es ∧ HeapD es' p ∧ es'[p]? = some e ∧ (Kids es i → Kids es' p) ∧ Eff (fun k => some k = hv.ownBlock ∨ k = mb) w w'
/-- What Push leaves. -/
def PushPost {α : Type} [Cells α] [Lt α] (tq te : TypeId) (lv : Value) (B : Nat) (w : World) (g : Nat) (hv : Value) (mb : Nat) (es : List (En α)) (nx ck : Int) (x : α) (r : Ending) (w' : World) : Prop :=
  r = .returned (.int .i64 nx) ∧ ∃ (hv' : Value) (es' : List (En α)), IsQ tq te lv B w' g hv' mb es' (nx + 1) (ck + 1) ∧ es'.Perm (es ++ [⟨x, nx, ck⟩]) ∧ Heap es' ∧ Eff (own g hv mb) w w' ∧ (hv'.ownBlock = hv.ownBlock ∨ ∃ b, hv'.ownBlock = some b ∧ w.heap.size ≤ b)
/-- What Pop leaves where there is an element. -/
def PopPost {α : Type} [Cells α] [Lt α] (tq te : TypeId) (lv : Value) (B : Nat) (w : World) (g : Nat) (hv : Value) (mb : Nat) (es : List (En α)) (nx ck : Int) (e : En α) (r : Ending) (w' : World) : Prop :=
  r = .returned (.tuple #[.agg (Cells.cs e.x).toArray, .bool true]) ∧ ∃ (hv' : Value) (es' : List (En α)), IsQ tq te lv B w' g hv' mb es' nx ck ∧ es.Perm (e :: es') ∧ Heap es' ∧ Eff (own g hv mb) w w' ∧ hv'.ownBlock = hv.ownBlock
section
variable {α : Type}
theorem hidx_take {es : List (En α)} {m : Nat} {e : En α} (hn : (es.map (·.h)).Nodup) (hm : es.length = m + 1) (he : es[m]? = some e) (k : Int) : hidx (es.take m) k = if k = e.h then none else hidx es k := by
  have hs : es = es.take m ++ [e] := by
    have h1 := List.take_append_drop m es
    have h2 : es.drop m = [e] := by
      obtain ⟨hlt, rfl⟩ := List.getElem?_eq_some_iff.1 he
      rw [List.drop_eq_getElem_cons hlt, List.drop_eq_nil_of_le (by omega)]
    rw [h2] at h1
    exact h1.symm
  have hn2 := hn
  rw [hs, List.map_append] at hn2
  have hne : ∀ x ∈ es.take m, x.h ≠ e.h := by
    intro x hx
    have := (List.nodup_append.1 hn2).2.2
    exact this x.h (List.mem_map.2 ⟨x, hx, rfl⟩) e.h (by simp)
  by_cases hk : k = e.h
  · subst hk
    rw [if_pos rfl]
    exact hidx_none.2 hne
  · rw [if_neg hk]
    have := hidx_snoc (es.take m) e hne k
    rw [if_neg hk, ← hs] at this
    exact this
theorem take_perm {es : List (En α)} {m : Nat} {a b : En α} (hm : es.length = m + 1) (h0 : es[0]? = some a) (hl : es[m]? = some b) : es.Perm (a :: (swp es 0 m).take m) := by
  have h1 : (swp es 0 m)[m]? = some a := by rw [swp_get h0 hl, if_pos rfl]
  have h2 : (swp es 0 m).length = m + 1 := by rw [swp_length]; exact hm
  have hs : swp es 0 m = (swp es 0 m).take m ++ [a] := by
    have h3 := List.take_append_drop m (swp es 0 m)
    obtain ⟨hlt, h4⟩ := List.getElem?_eq_some_iff.1 h1
    rw [List.drop_eq_getElem_cons hlt, List.drop_eq_nil_of_le (by omega), h4] at h3
    exact h3.symm
  have h5 : (swp es 0 m).Perm (a :: (swp es 0 m).take m) := by
    have h6 : ((swp es 0 m).take m ++ [a]).Perm (a :: (swp es 0 m).take m) := List.perm_append_comm
    rw [← hs] at h6
    exact h6
  exact (swp_perm (i := 0) (j := m)).symm.trans h5
variable [Lt α]
theorem heapD_take {es : List (En α)} {m : Nat} {a b : En α} (h : Heap es) (hm : es.length = m + 1) (h0 : es[0]? = some a) (hl : es[m]? = some b) : HeapD ((swp es 0 m).take m) 0 := by
  refine ⟨fun c hc0 hc hp => ?_, fun c _ _ _ hh => absurd hh (by omega)⟩
  have hlen : ((swp es 0 m).take m).length = m := by rw [List.length_take, swp_length]; omega
  rw [hlen] at hc
  intro x y hx hy
  rw [List.getElem?_take_of_lt (by omega), swp_get h0 hl, if_neg (by omega), if_neg hp] at hx
  rw [List.getElem?_take_of_lt hc, swp_get h0 hl, if_neg (by omega), if_neg (by omega)] at hy
  exact h c hc0 (by omega) x y hx hy
end
/-- What New leaves. -/
def NewPost {α : Type} [Cells α] (tq te : TypeId) (lv : Value) (B : Nat) (w : World) (r : Ending) (w' : World) : Prop :=
  ∃ g mb : Nat, r = .returned (.pointer (some ⟨g, 0, none⟩)) ∧ IsQ tq te lv B w' g (.slice none 0 0) mb ([] : List (En α)) 0 0 ∧ Below w.heap.size w w' ∧ w.heap.size ≤ g ∧ w.heap.size ≤ mb
/-- What Update leaves where the handle is there. -/
def UpdPost {α : Type} [Cells α] [Lt α] (tq te : TypeId) (lv : Value) (B : Nat) (w : World) (g : Nat) (hv : Value) (mb : Nat) (es : List (En α)) (nx ck : Int) (i : Nat) (h : Int) (x : α) (r : Ending) (w' : World) : Prop :=
  r = .returned (.bool true) ∧ ∃ es' : List (En α), IsQ tq te lv B w' g hv mb es' nx (ck + 1) ∧ es'.Perm (es.set i ⟨x, h, ck⟩) ∧ Heap es' ∧ Eff (own g hv mb) w w'
section
variable {α : Type}
theorem map_set_h {es : List (En α)} {i : Nat} {e e' : En α} (he : es[i]? = some e) (hh : e'.h = e.h) : (es.set i e').map (·.h) = es.map (·.h) := by
  apply List.ext_getElem?
  intro j
  rw [List.getElem?_map, List.getElem?_map, List.getElem?_set]
  by_cases hij : i = j
  · subst hij
    obtain ⟨hlt, _⟩ := List.getElem?_eq_some_iff.1 he
    rw [if_pos rfl, if_pos hlt, he]
    simp [hh]
  · rw [if_neg hij]
theorem hidx_set {es : List (En α)} {i : Nat} {e e' : En α} (he : es[i]? = some e) (hh : e'.h = e.h) : hidx (es.set i e') = hidx es := by
  funext k
  unfold hidx
  have h1 : ∀ l : List (En α), l.findIdx? (fun x => x.h == k) = (l.map (·.h)).findIdx? (· == k) := by
    intro l
    rw [List.findIdx?_map]
    rfl
  rw [h1, h1, map_set_h he hh]
theorem erase_perm {e : En α} : ∀ (es : List (En α)) (i : Nat), es[i]? = some e → es.Perm (e :: es.eraseIdx i)
  | [], _, h => by simp at h
  | x :: es, 0, h => by
    simp at h
    subst h
    exact List.Perm.refl _
  | x :: es, i + 1, h => by
    simp only [List.getElem?_cons_succ] at h
    exact ((erase_perm es i h).cons x).trans (List.Perm.swap e x _)
theorem set_erase (e' : En α) : ∀ (es : List (En α)) (i : Nat), (es.set i e').eraseIdx i = es.eraseIdx i
  | [], _ => by simp
  | x :: es, 0 => by simp
  | x :: es, i + 1 => by simp [set_erase e' es i]
theorem set_perm {es R : List (En α)} {i : Nat} {e e' : En α} (hi : es[i]? = some e) (hp : es.Perm (e :: R)) : (es.set i e').Perm (e' :: R) := by
  have hlt := (List.getElem?_eq_some_iff.1 hi).1
  have h2 : R.Perm (es.eraseIdx i) := (hp.symm.trans (erase_perm es i hi)).cons_inv
  have h4 := erase_perm (e := e') (es.set i e') i (by rw [List.getElem?_set_self hlt])
  rw [set_erase] at h4
  exact h4.trans (h2.symm.cons _)
variable [Lt α]
theorem heap_set_hole {es : List (En α)} (h : Heap es) (i : Nat) (hi : i < es.length) (e' : En α) : HeapX (es.set i e') i := by
  refine ⟨fun c h0 hc hne hp x y hx hy => ?_, fun c h0 hc hp hi0 x y hx hy => ?_⟩
  · rw [List.length_set] at hc
    rw [List.getElem?_set_ne (fun e => hp e.symm)] at hx
    rw [List.getElem?_set_ne (fun e => hne e.symm)] at hy
    exact h c h0 hc x y hx hy
  · rw [List.length_set] at hc
    rw [List.getElem?_set_ne (by omega)] at hx
    rw [List.getElem?_set_ne (by omega)] at hy
    have h1 := h c h0 hc
    rw [hp] at h1
    exact ((h i hi0 hi).trans h1 hi) x y hx hy
end
/-- What the way down leaves. -/
def DownPost {α : Type} [Cells α] [Lt α] (tq te : TypeId) (lv : Value) (B : Nat) (w : World) (g : Nat) (hv : Value) (mb : Nat) (es : List (En α)) (nx ck : Int) (r : Ending) (w' : World) : Prop :=
  r = .returned (.tuple #[]) ∧ ∃ es' : List (En α), IsQ tq te lv B w' g hv mb es' nx ck ∧ es'.Perm es ∧ Heap es' ∧ Eff (fun k => some k = hv.ownBlock ∨ k = mb) w w'
end Go.Proofs.Ytepfbhigeghjjaa.Q
