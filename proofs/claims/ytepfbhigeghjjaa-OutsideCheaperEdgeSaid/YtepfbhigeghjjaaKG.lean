/- The solver in memory: stores. The plain state behind each step. -/
import Derived.Test.YtepfbhigeghjjaaKF
namespace Go.Proofs.Ytepfbhigeghjjaa.Q
open Go.RowKit Go.Proofs.YtepfbhigeghjjaaW.PrintLast
set_option linter.unusedVariables false
set_option linter.unusedSimpArgs false

theorem ne_of_type {W : World} {a b : Nat} {c c' : Array Value} {t t' : TypeId} {f f' : Nat × Nat} (h1 : W.heap[a]? = some (.cells c t f)) (h2 : W.heap[b]? = some (.cells c' t' f')) (h : t ≠ t') : a ≠ b := by
  rintro rfl
  rw [h1] at h2
  cases h2
  exact h rfl
section
variable {w wr W : World} {s bv bs bo bu be g hb n ecap : Nat} {A : Option Addr} {es : List REd} {st : Nat → Bool} {v : Nat → K.V} {op : Nat → Int} {us : Nat → Value} {L : Nat → List Nat} {ef : Nat → Int} {S S' : List (En K.K3)} {nx ck nx' ck' : Int}
theorem UsesAt.eff {S : Nat → Prop} {W W' : World} {B bo bu be n : Nat} {us : Nat → Value} {L : Nat → List Nat} (h : UsesAt W B bo bu be n us L) (he : Eff S W W') (h1 : ¬ S bu) (h2 : ∀ t, t < n → ∀ k, (us t).ownBlock = some k → ¬ S k) : UsesAt W' B bo bu be n us L :=
  ⟨rowIs_eff h.row he h1, fun t ht => ownsRow_keep (h.at_ t ht) (fun k o hk ho => he.heap ho (h2 t ht k hk)), h.ne, h.ne2, h.apart⟩
theorem KSt.blkS (h : KSt w wr s bv bs bo bu be g hb n ecap A es st v op us L ef S nx ck) : ∃ c, wr.heap[s]? = some (.cells c 107 (0, 0)) := ⟨_, h.sol⟩
theorem UsesAt.blk {W : World} {B bo bu be n : Nat} {us : Nat → Value} {L : Nat → List Nat} (h : UsesAt W B bo bu be n us L) (t k : Nat) (ht : t < n) (hk : (us t).ownBlock = some k) : ∃ c, W.heap[k]? = some (.cells c 3 (0, 0)) := by
  rcases (h.at_ t ht).2 with ⟨e, _⟩ | ⟨b, cap, cur, e, _, h3, _⟩
  · rw [e] at hk; simp [Value.ownBlock] at hk
  · rw [e] at hk
    have : b = k := by simpa [Value.ownBlock] using hk
    subst this
    exact ⟨cur, h3⟩
theorem KSt.setSt (h : KSt w wr s bv bs bo bu be g hb n ecap A es st v op us L ef S nx ck) (i : Nat) (b : Bool) : KSt w (wr.setCell ⟨bs, i, none⟩ (.bool b)) s bv bs bo bu be g hb n ecap A es (K.upd st i b) v op us L ef S nx ck := by
  have he : Eff (fun k => k = bs) wr (wr.setCell ⟨bs, i, none⟩ (.bool b)) := eff_setCell wr bs i _
  obtain ⟨c0, k0, _⟩ := h.sett
  obtain ⟨c1, k1, _⟩ := h.opn
  obtain ⟨c2, k2, _⟩ := h.use.row
  obtain ⟨c3, k3, _⟩ := h.edg
  obtain ⟨c4, k4⟩ := h.blkS
  obtain ⟨c5, k5, _⟩ := h.vals.blk
  refine ⟨he.heap h.sol (ne_of_type k4 k0 (by decide)), h.vals.eff he (ne_of_type k5 k0 (by decide)), (h.sett.set i (.bool b)).congr (fun j _ => by unfold K.upd; split <;> rfl), rowIs_eff h.opn he (ne_of_type k1 k0 (by decide)), h.use.eff he (ne_of_type k2 k0 (by decide)) (fun t ht k hk => ?_), rowIs_eff h.edg he (ne_of_type k3 k0 (by decide)), h.nbe, he.heap h.hdr (ne_of_type h.hdr k0 (by decide)), h.q.cells k0 (by decide) (by decide) he, ?_, h.ge⟩
  · obtain ⟨c6, k6⟩ := h.use.blk t k ht hk
    exact ne_of_type k6 k0 (by decide)
  · exact h.below.trans (he.belowB h.below.size (fun k hk => by rw [hk]; exact h.ge.2.2.1))
theorem KSt.setV (h : KSt w wr s bv bs bo bu be g hb n ecap A es st v op us L ef S nx ck) (i : Nat) (hi : i < n) (y : K.V) : KSt w (wr.setCells bv (i * 2) (encV y)) s bv bs bo bu be g hb n ecap A es st (K.upd v i y) op us L ef S nx ck := by
  have he : Eff (fun k => k = bv) wr (wr.setCells bv (i * 2) (encV y)) := (eff_setCells bv _ (i * 2) wr).1
  obtain ⟨c0, k0, _⟩ := h.sett
  obtain ⟨c1, k1, _⟩ := h.opn
  obtain ⟨c2, k2, _⟩ := h.use.row
  obtain ⟨c3, k3, _⟩ := h.edg
  obtain ⟨c4, k4⟩ := h.blkS
  obtain ⟨c5, k5, _⟩ := h.vals.blk
  refine ⟨he.heap h.sol (ne_of_type k4 k5 (by decide)), h.vals.set i hi y, rowIs_eff h.sett he (ne_of_type k0 k5 (by decide)), rowIs_eff h.opn he (ne_of_type k1 k5 (by decide)), h.use.eff he (ne_of_type k2 k5 (by decide)) (fun t ht k hk => ?_), rowIs_eff h.edg he (ne_of_type k3 k5 (by decide)), h.nbe, he.heap h.hdr (ne_of_type h.hdr k5 (by decide)), h.q.cells k5 (by decide) (by decide) he, ?_, h.ge⟩
  · obtain ⟨c6, k6⟩ := h.use.blk t k ht hk
    exact ne_of_type k6 k5 (by decide)
  · exact h.below.trans (he.belowB h.below.size (fun k hk => by rw [hk]; exact h.ge.2.1))
theorem KSt.setOp (h : KSt w wr s bv bs bo bu be g hb n ecap A es st v op us L ef S nx ck) (i : Nat) (x : Int) : KSt w (wr.setCell ⟨bo, i, none⟩ (.int .i64 x)) s bv bs bo bu be g hb n ecap A es st v (K.upd op i x) us L ef S nx ck := by
  have he : Eff (fun k => k = bo) wr (wr.setCell ⟨bo, i, none⟩ (.int .i64 x)) := eff_setCell wr bo i _
  obtain ⟨c0, k0, _⟩ := h.sett
  obtain ⟨c1, k1, _⟩ := h.opn
  obtain ⟨c2, k2, _⟩ := h.use.row
  obtain ⟨c4, k4⟩ := h.blkS
  obtain ⟨c5, k5, _⟩ := h.vals.blk
  refine ⟨he.heap h.sol (ne_of_type k4 k1 (by decide)), h.vals.eff he (ne_of_type k5 k1 (by decide)), rowIs_eff h.sett he (ne_of_type k0 k1 (by decide)), (h.opn.set i (.int .i64 x)).congr (fun j _ => by unfold K.upd; split <;> rfl), h.use.eff he (ne_of_type k2 k1 (by decide)) (fun t ht k hk e => h.use.ne t ht (by rw [hk, e])), rowIs_eff h.edg he h.nbe, h.nbe, he.heap h.hdr (ne_of_type h.hdr k1 (by decide)), h.q.cells k1 (by decide) (by decide) he, ?_, h.ge⟩
  exact h.below.trans (he.belowB h.below.size (fun k hk => by rw [hk]; exact h.ge.2.2.2.1))
theorem KSt.setEf (h : KSt w wr s bv bs bo bu be g hb n ecap A es st v op us L ef S nx ck) (i : Nat) (x : Int) : KSt w (wr.setCell ⟨be, i, none⟩ (.int .i64 x)) s bv bs bo bu be g hb n ecap A es st v op us L (K.upd ef i x) S nx ck := by
  have he : Eff (fun k => k = be) wr (wr.setCell ⟨be, i, none⟩ (.int .i64 x)) := eff_setCell wr be i _
  obtain ⟨c0, k0, _⟩ := h.sett
  obtain ⟨c1, k1, _⟩ := h.edg
  obtain ⟨c2, k2, _⟩ := h.use.row
  obtain ⟨c4, k4⟩ := h.blkS
  obtain ⟨c5, k5, _⟩ := h.vals.blk
  refine ⟨he.heap h.sol (ne_of_type k4 k1 (by decide)), h.vals.eff he (ne_of_type k5 k1 (by decide)), rowIs_eff h.sett he (ne_of_type k0 k1 (by decide)), rowIs_eff h.opn he (fun e => h.nbe e.symm), h.use.eff he (ne_of_type k2 k1 (by decide)) (fun t ht k hk e => h.use.ne2 t ht (by rw [hk, e])), (h.edg.set i (.int .i64 x)).congr (fun j _ => by unfold K.upd; split <;> rfl), h.nbe, he.heap h.hdr (ne_of_type h.hdr k1 (by decide)), h.q.cells k1 (by decide) (by decide) he, ?_, h.ge⟩
  exact h.below.trans (he.belowB h.below.size (fun k hk => by rw [hk]; exact h.ge.2.2.2.2.2))
theorem KSt.congr (h : KSt w wr s bv bs bo bu be g hb n ecap A es st v op us L ef S nx ck) {st' : Nat → Bool} {v' : Nat → K.V} {op' ef' : Nat → Int} {L' : Nat → List Nat} (h1 : ∀ i, i < n → st i = st' i) (h2 : ∀ i, i < n → v i = v' i) (h3 : ∀ i, i < es.length → op i = op' i) (h4 : ∀ i, i < n → ef i = ef' i) (h5 : ∀ t, t < n → L t = L' t) : KSt w wr s bv bs bo bu be g hb n ecap A es st' v' op' us L' ef' S nx ck :=
  ⟨h.sol, h.vals.congr h2, h.sett.congr (fun i hi => by rw [h1 i hi]), h.opn.congr (fun i hi => by rw [h3 i hi]), ⟨h.use.row, fun t ht => by rw [← h5 t ht]; exact h.use.at_ t ht, h.use.ne, h.use.ne2, h.use.apart⟩, h.edg.congr (fun i hi => by rw [h4 i hi]), h.nbe, h.hdr, h.q, h.below, h.ge⟩
end

open K in
/-- What holds of the plain state: rem are the uses that settle has still to count down. -/
structure PSt (E : List K.Ed) (n : Nat) (st : Nat → Bool) (v : Nat → K.V) (op : Nat → Int) (S : List (En K.K3)) (nx ck : Int) (last : K.V) (D rem : List Nat) : Prop where
  inv : K.Inv E n st v (S.map (·.x)) last D
  op_ : ∀ (k : Nat) e, E[k]? = some e → op k = ((K.cnt e st + rem.count k : Nat) : Int)
  opD : ∀ k ∈ D, op k = 0
  dop : ∀ (k : Nat) e, E[k]? = some e → op k = 0 → k ∈ D
  hs : ∀ x ∈ S, x.h < nx
  nx0 : 0 ≤ nx
  nx1 : nx ≤ D.length
  ck0 : 0 ≤ ck
  ck1 : ck ≤ D.length
  slen : S.length ≤ D.length
section
variable {E : List K.Ed} {n : Nat} {st : Nat → Bool} {v : Nat → K.V} {op : Nat → Int} {S R : List (En K.K3)} {nx ck : Int} {last : K.V} {D rem : List Nat} {m : En K.K3}
theorem bef_val {x m : En K.K3} (h : bef x m = false) : ¬ K.ltV x.x.val m.x.val := by
  rw [nbef_iff] at h
  have h1 : ¬ (x.x.c < m.x.c ∨ x.x.c = m.x.c ∧ (x.x.s < m.x.s ∨ x.x.s = m.x.s ∧ x.t < m.t)) := h
  show ¬ (x.x.c < m.x.c ∨ x.x.c = m.x.c ∧ x.x.s < m.x.s)
  omega
theorem PSt.inv' (h : PSt E n st v op S nx ck last D rem) (hp : S.Perm (m :: R)) : K.Inv E n st v (m.x :: R.map (·.x)) last D := h.inv.perm (hp.map (·.x))
theorem PSt.cand (h : PSt E n st v op S nx ck last D rem) (hp : S.Perm (m :: R)) : m.x.node < n := ((h.inv' hp).cand m.x List.mem_cons_self).1
theorem PSt.skip (h : PSt E n st v op S nx ck last D []) (hp : S.Perm (m :: R)) (hm : ∀ x ∈ R, bef x m = false) (hst : st m.x.node = true) : PSt E n st v op R nx ck m.x.val D [] := by
  refine ⟨(h.inv' hp).skip (fun x hx => ?_) hst, h.op_, h.opD, h.dop, fun x hx => h.hs x (hp.symm.subset (List.mem_cons_of_mem _ hx)), h.nx0, h.nx1, h.ck0, h.ck1, by have h1 := hp.length_eq; have h2 := h.slen; simp only [List.length_cons] at h1; omega⟩
  obtain ⟨y, hy, rfl⟩ := List.mem_map.1 hx
  exact bef_val (hm y hy)
theorem PSt.settle (h : PSt E n st v op S nx ck last D []) (hp : S.Perm (m :: R)) (hm : ∀ x ∈ R, bef x m = false) (hst : st m.x.node = false) : PSt E n (K.upd st m.x.node true) (K.upd v m.x.node m.x.val) op R nx ck m.x.val D (K.uses E m.x.node) := by
  refine ⟨(h.inv' hp).settle (fun x hx => ?_) hst, fun k e he => ?_, h.opD, h.dop, fun x hx => h.hs x (hp.symm.subset (List.mem_cons_of_mem _ hx)), h.nx0, h.nx1, h.ck0, h.ck1, by have h1 := hp.length_eq; have h2 := h.slen; simp only [List.length_cons] at h1; omega⟩
  · obtain ⟨y, hy, rfl⟩ := List.mem_map.1 hx
    exact bef_val (hm y hy)
  · rw [h.op_ k e he, K.cnt_settle e hst, K.count_uses he]
    simp
theorem PSt.dec (hE : ∀ e ∈ E, K.OkE n e) {k : Nat} {e : K.Ed} {node : Nat} (h : PSt E n st v op S nx ck last D (k :: rem)) (he : E[k]? = some e) (hn : node ∈ e.tails) (hl : v node = last) :
    1 ≤ op k ∧ op k - 1 ≤ 1000000000 + e.tails.length + rem.length ∧ (¬ op k - 1 = 0 → PSt E n st v (K.upd op k (op k - 1)) S nx ck last D rem) ∧
    (op k - 1 = 0 → ((K.comb e v).1 < K.INF ∧ st e.head = false → PSt E n st v (K.upd op k (op k - 1)) (⟨⟨e.head, (K.comb e v).1, (K.comb e v).2⟩, nx, ck⟩ :: S) (nx + 1) (ck + 1) last (k :: D) rem) ∧ (¬ ((K.comb e v).1 < K.INF ∧ st e.head = false) → PSt E n st v (K.upd op k (op k - 1)) S nx ck last (k :: D) rem)) := by
  have h0 := h.op_ k e he
  rw [List.count_cons_self] at h0
  have hkD : k ∉ D := fun hk => by have := h.opD k hk; omega
  have hcl : K.cnt e st ≤ e.tails.length := List.countP_le_length
  have hrl : rem.count k ≤ rem.length := List.count_le_length
  have hop : ∀ (k' : Nat) e', E[k']? = some e' → K.upd op k (op k - 1) k' = ((K.cnt e' st + rem.count k' : Nat) : Int) := by
    intro k' e' he'
    by_cases hk : k' = k
    · subst hk
      rw [he] at he'
      cases he'
      rw [K.upd_self]
      omega
    · rw [K.upd_ne _ _ hk, h.op_ k' e' he', List.count_cons_of_ne (Ne.symm hk)]
  refine ⟨by omega, by omega, fun hz => ?_, fun hz => ?_⟩
  · refine ⟨h.inv, hop, fun k' hk' => ?_, fun k' e' he' hz' => ?_, h.hs, h.nx0, h.nx1, h.ck0, h.ck1, h.slen⟩
    · rw [K.upd_ne _ _ (fun e1 => hkD (by rw [← e1]; exact hk'))]
      exact h.opD k' hk'
    · by_cases hk : k' = k
      · subst hk
        rw [K.upd_self] at hz'
        exact absurd hz' hz
      · rw [K.upd_ne _ _ hk] at hz'
        exact h.dop k' e' he' hz'
  · have hc0 : K.cnt e st = 0 := by omega
    have hopD : ∀ k' ∈ k :: D, K.upd op k (op k - 1) k' = 0 := by
      intro k' hk'
      by_cases hk : k' = k
      · subst hk; rw [K.upd_self]; exact hz
      · rw [K.upd_ne _ _ hk]
        rcases List.mem_cons.1 hk' with h1 | h1
        · exact absurd h1 hk
        · exact h.opD k' h1
    have hdop : ∀ (k' : Nat) e', E[k']? = some e' → K.upd op k (op k - 1) k' = 0 → k' ∈ k :: D := by
      intro k' e' he' hz'
      by_cases hk : k' = k
      · subst hk; exact List.mem_cons_self
      · rw [K.upd_ne _ _ hk] at hz'
        exact List.mem_cons_of_mem _ (h.dop k' e' he' hz')
    have hem := List.mem_of_getElem? he
    obtain ⟨o1, o2⟩ := h.inv.offer hE he hkD (K.cnt_zero.1 hc0) (fun hf => by
      rw [← hl]
      exact (K.combV_super (hE e hem).2.2.1 (hE e hem).2.2.2 (K.map_ok (hE e hem) h.inv.ok) hf (v node) (List.mem_map.2 ⟨node, hn, rfl⟩)).2.1)
    have a1 := h.nx0
    have a2 := h.nx1
    have a3 := h.ck0
    have a4 := h.ck1
    have a5 := h.slen
    refine ⟨fun hy => ⟨o1 hy, hop, hopD, hdop, fun x hx => ?_, by omega, by simp only [List.length_cons]; omega, by omega, by simp only [List.length_cons]; omega, by simp only [List.length_cons]; omega⟩, fun hy => ⟨o2 hy, hop, hopD, hdop, h.hs, a1, by simp only [List.length_cons]; omega, a3, by simp only [List.length_cons]; omega, by simp only [List.length_cons]; omega⟩⟩
    rcases List.mem_cons.1 hx with rfl | hx
    · show nx < nx + 1; omega
    · have := h.hs x hx; omega
end
end Go.Proofs.Ytepfbhigeghjjaa.Q
