/- Solve: a use is appended; the first candidates. -/
import Derived.Test.YtepfbhigeghjjaaKI
namespace Go.Proofs.Ytepfbhigeghjjaa.Q
open Go.RowKit Go.Proofs.YtepfbhigeghjjaaW.PrintLast
set_option linter.unusedVariables false
set_option linter.unusedSimpArgs false

theorem res_tt {P : Program} {fn : Func} {p u : Tmp} (h : fn.results = #[.tmp p, .tmp u]) (tmps : Array Value) (w : World) : (results fn tmps).run P w = .ok (.tuple #[tmps.getD p undef, tmps.getD u undef]) w := by
  simp [results, h, Result.andThen]
structure P0 (E : List K.Ed) (n : Nat) (op : Nat → Int) (S : List (En K.K3)) (nx ck : Int) (D : List Nat) (i : Nat) : Prop where
  inv : K.Inv E n (fun _ => false) (fun _ => (1099511627776, 0)) (S.map (·.x)) (0, 0) D
  D0 : ∀ k ∈ D, k < i ∧ op k = 0
  dop : ∀ (k : Nat) e, k < i → E[k]? = some e → op k = 0 → k ∈ D
  hs : ∀ x ∈ S, x.h < nx
  nx0 : 0 ≤ nx
  nx1 : nx ≤ D.length
  ck0 : 0 ≤ ck
  ck1 : ck ≤ D.length
  slen : S.length ≤ D.length
theorem P0.start (E : List K.Ed) (n : Nat) (op : Nat → Int) : P0 E n op [] 0 0 [] 0 := ⟨K.Inv.start E n, (fun _ h => by cases h), (fun k _ h => absurd h (Nat.not_lt_zero k)), (fun _ h => by cases h), by simp, by simp, by simp, by simp, by simp⟩
section
variable {E : List K.Ed} {n : Nat} {op : Nat → Int} {S : List (En K.K3)} {nx ck : Int} {D : List Nat} {i : Nat}
theorem P0.skip (h : P0 E n op S nx ck D i) (hi : op i ≠ 0) : P0 E n op S nx ck D (i + 1) := by
  refine ⟨h.inv, fun k hk => ⟨by have := (h.D0 k hk).1; omega, (h.D0 k hk).2⟩, fun k e hk he hz => ?_, h.hs, h.nx0, h.nx1, h.ck0, h.ck1, h.slen⟩
  by_cases h1 : k = i
  · subst h1; exact absurd hz hi
  · exact h.dop k e (by omega) he hz
theorem P0.step (hE : ∀ e ∈ E, K.OkE n e) (h : P0 E n op S nx ck D i) {e : K.Ed} (he : E[i]? = some e) (ht : e.tails = []) (hz : op i = 0) :
    ((K.comb e (fun _ => (1099511627776, 0))).1 < K.INF ∧ false = false → P0 E n op (⟨⟨e.head, (K.comb e (fun _ => (1099511627776, 0))).1, (K.comb e (fun _ => (1099511627776, 0))).2⟩, nx, ck⟩ :: S) (nx + 1) (ck + 1) (i :: D) (i + 1)) ∧ (¬ ((K.comb e (fun _ => (1099511627776, 0))).1 < K.INF ∧ false = false) → P0 E n op S nx ck (i :: D) (i + 1)) := by
  have hem := List.mem_of_getElem? he
  have hiD : i ∉ D := fun hk => by have := (h.D0 i hk).1; omega
  obtain ⟨o1, o2⟩ := h.inv.offer hE he hiD (fun t h1 => by rw [ht] at h1; cases h1) (fun _ => by
    have := K.comb_ok (hE e hem) h.inv.ok
    unfold K.OkV at this
    rw [K.leV_iff]
    show (0 : Int) < _ ∨ (0 : Int) = _ ∧ (0 : Int) ≤ _
    omega)
  have hD0 : ∀ k ∈ i :: D, k < i + 1 ∧ op k = 0 := fun k hk => by
    rcases List.mem_cons.1 hk with rfl | hk
    · exact ⟨by omega, hz⟩
    · exact ⟨by have := (h.D0 k hk).1; omega, (h.D0 k hk).2⟩
  have hdop : ∀ (k : Nat) e, k < i + 1 → E[k]? = some e → op k = 0 → k ∈ i :: D := fun k e hk he hz => by
    by_cases h1 : k = i
    · rw [h1]; exact List.mem_cons_self
    · exact List.mem_cons_of_mem _ (h.dop k e (by omega) he hz)
  have a1 := h.nx0
  have a2 := h.nx1
  have a3 := h.ck0
  have a4 := h.ck1
  have a5 := h.slen
  refine ⟨fun hy => ⟨o1 ⟨hy.1, rfl⟩, hD0, hdop, fun x hx => ?_, by omega, by simp only [List.length_cons]; omega, by omega, by simp only [List.length_cons]; omega, by simp only [List.length_cons]; omega⟩, fun hy => ⟨o2 (fun h => hy ⟨h.1, rfl⟩), hD0, hdop, h.hs, a1, by simp only [List.length_cons]; omega, a3, by simp only [List.length_cons]; omega, by simp only [List.length_cons]; omega⟩⟩
  rcases List.mem_cons.1 hx with rfl | hx
  · show nx < nx + 1; omega
  · have := h.hs x hx; omega
theorem P0.done (h : P0 E n op S nx ck D E.length) (hop : ∀ (k : Nat) e, E[k]? = some e → op k = (e.tails.length : Int)) : PSt E n (fun _ => false) (fun _ => (1099511627776, 0)) op S nx ck (0, 0) D [] :=
  ⟨h.inv, fun k e he => by rw [hop k e he, K.cnt_start]; simp, fun k hk => (h.D0 k hk).2, fun k e he hz => h.dop k e (List.getElem?_eq_some_iff.1 he).1 he hz, h.hs, h.nx0, h.nx1, h.ck0, h.ck1, h.slen⟩
theorem PSt.fix (hE : ∀ e ∈ E, K.OkE n e) {st : Nat → Bool} {v : Nat → K.V} {last : K.V} (h : PSt E n st v op [] nx ck last D []) : K.Fix E n v := by
  refine K.Inv.fix hE h.inv (fun k e he ht => h.dop k e he ?_)
  rw [h.op_ k e he, K.cnt_zero.2 ht]
  simp
end

section
variable {w wr W : World} {s bv bs bo bu be g hb n ecap : Nat} {A : Option Addr} {es : List REd} {st : Nat → Bool} {v : Nat → K.V} {op : Nat → Int} {us : Nat → Value} {L : Nat → List Nat} {ef : Nat → Int} {S S' : List (En K.K3)} {nx ck nx' ck' : Int}
theorem QA.effO {tq te : TypeId} {lv : Value} {B : Nat} {W W' : World} {g : Nat} {S : List (En K.K3)} {nx ck : Int} (h : QA tq te lv B W g S nx ck) {o : Option Nat} (ht : ∀ k, o = some k → ∃ c t f, W.heap[k]? = some (.cells c t f) ∧ t ≠ tq ∧ t ≠ te) (he : Eff (fun b => some b = o) W W') : QA tq te lv B W' g S nx ck := by
  cases o with
  | none => exact h.eff (he.below (fun _ h => by cases h))
  | some k =>
    obtain ⟨c, t, f, h1, h2, h3⟩ := ht k rfl
    exact h.cells h1 h2 h3 (he.mono (fun b hb => .inl (by cases hb; rfl)))
theorem KSt.append (h : KSt w wr s bv bs bo bu be g hb n ecap A es st v op us L ef S nx ck) {tn : Nat} (htn : tn < n) (k : Nat) {X w3 : World} {v1 : Value} (hX : Eff (fun _ => False) wr X) (ho : w3.ownsRow w.heap.size 3 1 v1 ((L tn).length + 1) (((L tn).map fun (k : Nat) => Value.int .i64 (k : Int)) ++ [.int .i64 (k : Int)])) (hg : Eff (fun b => some b = (us tn).ownBlock) X w3) (ha : v1.ownBlock = (us tn).ownBlock ∨ v1.ownBlock = some X.heap.size) :
    KSt w (w3.setCell ⟨bu, tn, none⟩ v1) s bv bs bo bu be g hb n ecap A es st v op (K.upd us tn v1) (K.upd L tn (L tn ++ [k])) ef S nx ck := by
  obtain ⟨c0, k0, _⟩ := h.sett
  obtain ⟨c1, k1, _⟩ := h.opn
  obtain ⟨c2, k2, _⟩ := h.use.row
  obtain ⟨c3, k3, _⟩ := h.edg
  obtain ⟨c4, k4⟩ := h.blkS
  obtain ⟨c5, k5, _⟩ := h.vals.blk
  have e1 : Eff (fun b => some b = (us tn).ownBlock) wr w3 := (hX.mono (fun _ h => h.elim)).trans hg (fun k h => .inl h)
  have e2 : Eff (fun b => b = bu) w3 (w3.setCell ⟨bu, tn, none⟩ v1) := eff_setCell w3 bu tn v1
  have hT : ∀ b, some b = (us tn).ownBlock → ∃ c, wr.heap[b]? = some (.cells c 3 (0, 0)) := fun b hb => h.use.blk tn b htn hb.symm
  have e3 : Eff (fun b => some b = (us tn).ownBlock ∨ b = bu) wr (w3.setCell ⟨bu, tn, none⟩ v1) := (e1.mono (fun k h => .inl (.inl h))).trans e2 (fun k h => .inl (.inr h))
  have no : ∀ {b : Nat} {c : Array Value} {t : TypeId}, wr.heap[b]? = some (.cells c t (0, 0)) → t ≠ 3 → t ≠ 22 → ¬ (some b = (us tn).ownBlock ∨ b = bu) := by
    intro b c t hb h3 h22 hh
    rcases hh with hh | hh
    · obtain ⟨c', hc'⟩ := hT b hh
      exact ne_of_type hb hc' h3 rfl
    · exact ne_of_type hb k2 h22 hh
  have nbo : ¬ (some bo = (us tn).ownBlock ∨ bo = bu) := fun hh => hh.elim (fun h1 => h.use.ne tn htn h1.symm) (fun h1 => ne_of_type k1 k2 (by decide) h1)
  have nbe : ¬ (some be = (us tn).ownBlock ∨ be = bu) := fun hh => hh.elim (fun h1 => h.use.ne2 tn htn h1.symm) (fun h1 => ne_of_type k3 k2 (by decide) h1)
  have nbu : ¬ some bu = (us tn).ownBlock := fun hh => by
    obtain ⟨c', hc'⟩ := hT bu hh
    exact ne_of_type k2 hc' (by decide) rfl
  have lt : ∀ {b : Nat} {o : Obj}, wr.heap[b]? = some o → b < X.heap.size := fun hb => Nat.lt_of_lt_of_le (Array.getElem?_eq_some_iff.1 hb).1 hX.size
  have vbu : v1.ownBlock ≠ some bu := by
    rcases ha with h1 | h1
    · rw [h1]; exact fun e => nbu e.symm
    · rw [h1]; intro e; have := lt k2; cases e; omega
  have hget : ∀ t, t ≠ tn → K.upd us tn v1 t = us t := fun t ht => K.upd_ne _ _ ht
  have hgetL : ∀ t, t ≠ tn → K.upd L tn (L tn ++ [k]) t = L t := fun t ht => K.upd_ne _ _ ht
  refine ⟨e3.heap h.sol (no k4 (by decide) (by decide)), h.vals.eff e3 (no k5 (by decide) (by decide)), rowIs_eff h.sett e3 (no k0 (by decide) (by decide)), rowIs_eff h.opn e3 nbo, ⟨?_, fun t ht => ?_, fun t ht => ?_, fun t ht => ?_, fun t u ht hu htu b hb => ?_⟩, rowIs_eff h.edg e3 nbe, h.nbe, e3.heap h.hdr (no h.hdr (by decide) (by decide)), ?_, ?_, h.ge⟩
  · exact ((rowIs_eff h.use.row e1 nbu).set tn v1).congr (fun j _ => by unfold K.upd; split <;> rfl)
  · by_cases h1 : t = tn
    · subst h1
      rw [K.upd_self, K.upd_self, List.length_append, List.map_append]
      exact ownsRow_keep ho (fun b o hb hh => e2.heap hh (fun e => vbu (by rw [hb, e])))
    · rw [hget t h1, hgetL t h1]
      refine ownsRow_keep (h.use.at_ t ht) (fun b o hb hh => e3.heap hh ?_)
      rintro (h2 | h2)
      · exact h.use.apart t tn ht htn h1 b hb h2.symm
      · obtain ⟨c', hc'⟩ := h.use.blk t b ht hb
        exact ne_of_type hc' k2 (by decide) h2
  · by_cases h1 : t = tn
    · subst h1
      rw [K.upd_self]
      rcases ha with h2 | h2
      · rw [h2]; exact h.use.ne t ht
      · rw [h2]; intro e; have := lt k1; cases e; omega
    · rw [hget t h1]; exact h.use.ne t ht
  · by_cases h1 : t = tn
    · subst h1
      rw [K.upd_self]
      rcases ha with h2 | h2
      · rw [h2]; exact h.use.ne2 t ht
      · rw [h2]; intro e; have := lt k3; cases e; omega
    · rw [hget t h1]; exact h.use.ne2 t ht
  · by_cases h1 : t = tn
    · subst h1
      rw [K.upd_self] at hb
      rw [hget u (Ne.symm htu)]
      rcases ha with h2 | h2
      · rw [h2] at hb; exact h.use.apart t u ht hu htu b hb
      · rw [h2] at hb
        cases hb
        intro e
        obtain ⟨c', hc'⟩ := h.use.blk u _ hu e
        have := lt hc'
        omega
    · rw [hget t h1] at hb
      by_cases h3 : u = tn
      · subst h3
        rw [K.upd_self]
        rcases ha with h2 | h2
        · rw [h2]; exact h.use.apart t u ht hu htu b hb
        · rw [h2]
          intro e
          obtain ⟨c', hc'⟩ := h.use.blk t b ht hb
          have := lt hc'
          cases e
          omega
      · rw [hget u h3]; exact h.use.apart t u ht hu htu b hb
  · refine (h.q.effO (o := (us tn).ownBlock) (fun b hb => ?_) e1).effO (o := some bu) (fun b hb => ?_) (e2.mono (fun b h => .inl (by rw [h])))
    · obtain ⟨c', hc'⟩ := hT b hb.symm
      exact ⟨_, _, _, hc', by decide, by decide⟩
    · cases hb
      exact ⟨_, _, _, e1.heap k2 nbu, by decide, by decide⟩
  · refine h.below.trans (e3.belowB h.below.size (fun b hb => ?_))
    rcases hb with hb | hb
    · exact ((h.use.at_ tn htn).lt b hb.symm).1
    · rw [hb]; exact h.ge.2.2.2.2.1
end
end Go.Proofs.Ytepfbhigeghjjaa.Q
