/- Operations by what they do: a call through a function value, a built-in's call, a store of one cell; results that lie in memory. -/
import Derived.Test.YtepfbhigeghjjaaQ2
import Derived.Test.YtepfbhigeghjjaaWLast
import Derived.Maps.AppendAt
import Derived.Maps.Own
import Derived.Maps.OwnOps
namespace Go.Proofs.Ytepfbhigeghjjaa.Q
open Go.RowKit Go.Proofs.YtepfbhigeghjjaaW.PrintLast
set_option linter.unusedVariables false
set_option linter.unusedSimpArgs false
section
variable {P : Program} {ops : Array Oper} {Q : Exit → Act → World → Prop}
/-- A call of a function value that is a named function. -/
theorem goesV_ {oi : Oper} {N : Option Tmp} {a : Act} {w : World} {K : Act → World → Prop} {f : FuncId} {fn : Func} {x : Operand} {as : Array Operand} {ts : Array TypeId} (hf : P.funcs[f]? = some fn) (hname : (fn.name == "runtime.NumGoroutine") = false) (hb : fn.body.isSome = true) (args : Array Value)
    (hw : Region.wanted oi (yielded ops a.tmps) = true) (hN : oi.dst = N) (hop : oi.op = .call { callee := .value x, args := as, argTypes := ts }) (hx : a.eval x = .func (.func f) #[] #[]) (hargs : as.map a.eval = args)
    (h : Calls P f args w fun e w' => ∃ v, e = .returned v ∧ K (a.put N v) w') : if Region.wanted oi (yielded ops a.tmps) = true then Oper.wp P oi a w K Q else K (a.put N undef) w := by
  refine call_ f args hw hN ?_ h
  have he := enters_ hf hname hb args w
  unfold execOp
  simp [hop, resolve, Deferred.ofValue, invoke, hx, hargs, he]
/-- The built-in append, run. -/
theorem exec_append {oi : Oper} {a : Act} {w w1 : World} {s x : Operand} {t : TypeId} {v y v1 : Value} (hop : oi.op = .call { callee := .builtin .append, args := #[s, x], argTypes := #[t, t] }) (hs : a.eval s = v) (hx : a.eval x = y)
    (hr : (Builtin.append_ #[t, t] oi.type #[v, y]).run P w = .ok v1 w1) : (execOp a.eval oi).run P w = .ok (.value v1) w1 := by
  unfold execOp
  simp only [hop, resolve, invoke, builtin, Sem.run_bind, Sem.run_pure, Result.andThen_ok, List.map_toArray, List.map_cons, List.map_nil, hs, hx, hr]
/-- The built-in delete, run. -/
theorem exec_delete {oi : Oper} {a : Act} {w w1 : World} {s x : Operand} {ts : Array TypeId} {v y v1 : Value} (hop : oi.op = .call { callee := .builtin .delete, args := #[s, x], argTypes := ts }) (hs : a.eval s = v) (hx : a.eval x = y)
    (hr : (Builtin.delete_ ts oi.type #[v, y]).run P w = .ok v1 w1) : (execOp a.eval oi).run P w = .ok (.value v1) w1 := by
  unfold execOp
  simp only [hop, resolve, invoke, builtin, Sem.run_bind, Sem.run_pure, Result.andThen_ok, List.map_toArray, List.map_cons, List.map_nil, hs, hx, hr]
/-- A store of one cell. -/
theorem run_storeAt_one {w : World} {t : TypeId} {a : Addr} {v o : Value} (hi : (P.info? t).map (·.size) = some 1) (hv : v.oneCell' = true) (hc : w.cell? a = some o) (hf : w.frozen? a = false) :
    (Instr.storeAt t (.pointer (some a)) v).run P w = .ok () (w.setCell a v) := by
  cases hq : P.info? t with
  | none => simp [hq] at hi
  | some i =>
    have hs : i.size = 1 := by simpa [hq] using hi
    cases v <;> simp [Value.oneCell'] at hv <;> simp [Instr.storeAt, Instr.sureAddr, storeVar, sizeOf, typeInfo, hq, hs, Value.cells, storeCells, store, Sem.run, hc, hf, Result.andThen, Addr.add]
theorem wpL_u {rest : List Oper} {o : Oper} {a : Act} {w w1 : World} (hg : o.guard = none) (hd : o.dst = none) (hrun : (execOp a.eval o).run P w = .ok .skip w1) (h : wpList P ops Q rest a w1) : wpList P ops Q (o :: rest) a w := by
  refine wpList_plain hg fun K hK => ?_
  unfold Oper.wp
  rw [hrun]
  show K (a.put o.dst undef) w1
  rw [hd]
  exact hK _ _ h
theorem wpL_v {rest : List Oper} {o : Oper} {a : Act} {w w1 : World} {v : Value} (N : Option Tmp) (hg : o.guard = none) (hd : o.dst = N) (hrun : (execOp a.eval o).run P w = .ok (.value v) w1) (h : wpList P ops Q rest (a.put N v) w1) : wpList P ops Q (o :: rest) a w := by
  refine wpList_plain hg fun K hK => ?_
  unfold Oper.wp
  rw [hrun]
  show K (a.put o.dst v) w1
  rw [hd]
  exact hK _ _ h
/-- Two results: a struct in memory, and a value. -/
theorem res_ct {fn : Func} {p u : Tmp} {ty : TypeId} {d : TypeDesc} (h : fn.results = #[.cell p ty, .tmp u]) (tmps : Array Value) (w : World) (b : Nat) (cs : List Value) (hp : tmps.getD p undef = .pointer (some ⟨b, 0, none⟩)) (hc : w.rangeAt b 0 cs)
    (hu : P.underlying ty = some d) (hd : d.isRow = true) (hi : (P.info? ty).map (·.size) = some cs.length) :
    (results fn tmps).run P w = .ok (.tuple #[.agg cs.toArray, tmps.getD u undef]) w := by
  have hl := run_loadVar_mid (P := P) w b 0 ty cs d hc hu hd hi
  have hp' : tmps[p]?.getD undef = .pointer (some ⟨b, 0, none⟩) := by simpa using hp
  simp [results, h, hp', asAddr, hl, Result.andThen]
end
theorem set_cell {W : World} {g : Nat} {cs : Array Value} {t : TypeId} (h : W.heap[g]? = some (.cells cs t (0, 0))) (j : Nat) (v : Value) : (W.setCell ⟨g, j, none⟩ v).heap[g]? = some (.cells (cs.setIfInBounds j v) t (0, 0)) := by
  simp [World.setCell, Array.getElem?_modify, h]
theorem eff_setCell (W : World) (g j : Nat) (v : Value) : Eff (fun k => k = g) W (W.setCell ⟨g, j, none⟩ v) := (Eff.refl (fun k => k = g) W).setCell (p := ⟨g, j, none⟩) (.inl rfl) v
theorem own_slice {w : World} {base n : Nat} {e : TypeId} {size : Nat} {v : Value} {xs : List Value} (h : w.ownsRow base e size v n xs) : ∃ A c, v = .slice A n c := by
  rcases h.2 with ⟨rfl, rfl⟩ | ⟨g, cap, cur, rfl, _⟩
  · exact ⟨none, 0, rfl⟩
  · exact ⟨_, cap, rfl⟩
theorem there_le {W : World} {b o n m : Nat} (h : W.there b o n) (hm : m ≤ n) : W.there b o m := fun j hj => h j (Nat.lt_of_lt_of_le hj hm)
theorem frozen_blk {W : World} {g : Nat} {cs : Array Value} {t : TypeId} (h : W.heap[g]? = some (.cells cs t (0, 0))) (o : Nat) : W.frozen? ⟨g, o, none⟩ = false := by simp [World.frozen?, h]
section
variable {α : Type} [Cells α]
theorem flat_snoc (es : List (En α)) (e : En α) : flat (es ++ [e]) = flat es ++ enc e := by simp [flat]
theorem flat_take (es : List (En α)) (m : Nat) : (flat es).take (m * esz α) = flat (es.take m) := by
  induction es generalizing m with
  | nil => simp [flat]
  | cons e es ih =>
    cases m with
    | zero => simp [flat]
    | succ m =>
      simp only [flat, List.flatMap_cons, List.take_succ_cons] at ih ⊢
      rw [List.take_append, enc_length, List.take_of_length_le (by rw [enc_length, Nat.add_mul]; omega), show (m + 1) * esz α - esz α = m * esz α by rw [Nat.add_mul]; omega, ih]
theorem setAt_append (vs us : List Value) : ∀ (L : List Value) (o : Nat), Q.setAt L o (vs ++ us) = Q.setAt (Q.setAt L o vs) (o + vs.length) us := by
  induction vs with
  | nil => intro L o; rfl
  | cons v vs ih => intro L o; simp only [List.cons_append, Q.setAt, ih, List.length_cons]; rw [show o + 1 + vs.length = o + (vs.length + 1) by omega]
theorem setAt_same (L : List Value) (o : Nat) (v : Value) (h : L[o]? = some v) : Q.setAt L o [v] = L := by
  show L.set o v = L
  apply List.ext_getElem?
  intro j
  rw [List.getElem?_set]
  split
  · rename_i hij
    subst hij
    rw [if_pos (List.getElem?_eq_some_iff.1 h).1, h]
  · rfl
/-- The element and the time of an entry are laid anew. -/
theorem Row.storeXT {te : TypeId} {B : Nat} {W : World} {b cap n : Nat} {es : List (En α)} (h : Row te B W (.slice (some ⟨b, 0, none⟩) n cap) es) (i : Nat) (e : En α) (he : es[i]? = some e) (x : α) (t : Int) :
    Row te B ((W.setCells b (i * esz α) (Cells.cs x)).setCell ⟨b, i * esz α + (Cells.sz α + 1), none⟩ (.int .i64 t)) (.slice (some ⟨b, 0, none⟩) n cap) (es.set i ⟨x, e.h, t⟩) := by
  have hi : i < es.length := (List.getElem?_eq_some_iff.1 he).1
  have hle : (i + 1) * esz α ≤ es.length * esz α := Nat.mul_le_mul_right _ (by omega)
  rw [Nat.add_mul, Nat.one_mul] at hle
  have hez : esz α = Cells.sz α + 2 := rfl
  obtain ⟨b', cap', cur, he', hB, hh, hc, hm, hs, hl'⟩ := Row.form h (by omega)
  cases he'
  obtain ⟨c1, h2, h3⟩ := blk_setCells b te (Cells.cs x) (i * esz α) W cur hh
  obtain ⟨c2, h4, h5⟩ := blk_setCells b te [.int .i64 t] (i * esz α + (Cells.sz α + 1)) _ c1 h2
  have hlen := Cells.len x
  have key : Q.setAt (Q.setAt (flat es) (i * esz α) (Cells.cs x)) (i * esz α + (Cells.sz α + 1)) [.int .i64 t] = flat (es.set i ⟨x, e.h, t⟩) := by
    rw [← setAt_flat es i hi ⟨x, e.h, t⟩]
    show _ = Q.setAt (flat es) (i * esz α) (Cells.cs x ++ ([.int .i64 e.h] ++ [.int .i64 t]))
    have hsame : Q.setAt (Q.setAt (flat es) (i * esz α) (Cells.cs x)) (i * esz α + Cells.sz α) [.int .i64 e.h] = Q.setAt (flat es) (i * esz α) (Cells.cs x) := by
      refine setAt_same _ _ _ ?_
      rw [setAt_get _ _ _ _ (by rw [hlen, flat_length]; omega), if_neg (by omega), flat_get _ _ _ (by omega), he]
      show (enc e)[Cells.sz α]? = _
      rw [enc, List.getElem?_append_right (by rw [Cells.len]; exact Nat.le_refl _), Cells.len, Nat.sub_self]
      rfl
    rw [setAt_append, setAt_append, hlen, hsame, Nat.add_assoc]
    rfl
  refine ⟨by rw [flat_length], .inr ⟨b, cap, c2, by simp, hB, h4, by simpa using hc, hm, ?_, ?_⟩⟩
  · rw [← Array.length_toList, h5, setAt_length, h3, setAt_length, Array.length_toList, hs]
  · rw [h5, setAt_take, h3, setAt_take, List.length_set, hl', key]
/-- A row cut shorter. -/
theorem Row.take {te : TypeId} {B : Nat} {W : World} {b cap n : Nat} {es : List (En α)} (h : Row te B W (.slice (some ⟨b, 0, none⟩) n cap) es) (m : Nat) (hm : m ≤ es.length) (hp : 0 < es.length) : Row te B W (.slice (some ⟨b, 0, none⟩) m cap) (es.take m) := by
  obtain ⟨b', cap', cur, he, hB, hh, hc, hmx, hs, hl⟩ := Row.form h hp
  cases he
  have hln : (es.take m).length = m := by rw [List.length_take]; omega
  refine ⟨by rw [flat_length], .inr ⟨b, cap, cur, by rw [hln], hB, hh, by omega, hmx, hs, ?_⟩⟩
  rw [hln, ← flat_take, ← hl, List.take_take]
  have : m * esz α ≤ es.length * esz α := Nat.mul_le_mul_right _ hm
  rw [Nat.min_eq_left this]
/-- The queue's block and map turned, its row as it was. -/
theorem IsQ.lens {tq te : TypeId} {lv : Value} {B : Nat} {W : World} {g mb : Nat} {hv : Value} {es : List (En α)} {nx ck : Int} (h : IsQ tq te lv B W g hv mb es nx ck) : ∃ A cap, hv = .slice A es.length cap := Row.slice h.row
end
end Go.Proofs.Ytepfbhigeghjjaa.Q
