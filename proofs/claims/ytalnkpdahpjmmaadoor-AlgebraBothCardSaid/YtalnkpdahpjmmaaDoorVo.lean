/- What single operations do, as facts that the steps of Vb and Vd take. -/
import Derived.Test.YtalnkpdahpjmmaaDoorVd
import Derived.Laws.Externs
import Derived.LoopN
set_option linter.unusedVariables false
set_option linter.unusedSimpArgs false
namespace Go.Vk
open Go Go.RowKit

section
variable {P : Program} {w0 : World} {L : List B} {a : Act} {o : Oper}

theorem Own.at {w : World} (h : Own w0 L w) (i : Nat) {b : Nat} {cs : List Value} {ty : TypeId} (hx : L[i]? = some ⟨b, cs, ty⟩) : w.heap[b]? = some (.cells cs.toArray ty (0, 0)) :=
  h.blk _ (List.mem_of_getElem? hx)
theorem Own.cellAt {w : World} (h : Own w0 L w) (i : Nat) {b : Nat} {cs : List Value} {ty : TypeId} (hx : L[i]? = some ⟨b, cs, ty⟩) (off : Nat) : w.cell? ⟨b, off, none⟩ = cs[off]? := by
  rw [cell_of_row w b off _ _ _ (h.at i hx)]; simp
theorem Own.setAt {w : World} (h : Own w0 L w) (i : Nat) {b : Nat} {cs : List Value} {ty : TypeId} (hx : L[i]? = some ⟨b, cs, ty⟩) (cs' : List Value) : Own w0 (L.set i ⟨b, cs', ty⟩) (w.setRow b cs'.toArray) := by
  obtain ⟨hi, hx'⟩ := List.getElem?_eq_some_iff.1 hx
  have e : L = L.take i ++ ⟨b, cs, ty⟩ :: L.drop (i + 1) := by rw [← hx']; simp
  rw [List.set_eq_take_append_cons_drop, if_pos hi]
  rw [e] at h
  have := h.set cs'
  simpa using this
theorem Own.eq {w : World} {L' : List B} (h : Own w0 L w) (e : L = L') : Own w0 L' w := e ▸ h

/-- One cell out of an own block. -/
theorem ld1 {t : TypeId} {x : Operand} {v : Value} (i b off : Nat) (cs : List Value) (ty : TypeId) (ho : o.op = .load t x) (hx : a.eval x = .pointer (some ⟨b, off, none⟩)) (ht : ∀ w, (isAgg t).run P w = .ok false w)
    (hL : L[i]? = some ⟨b, cs, ty⟩) (hv : cs[off]? = some v) : ∀ w, Own w0 L w → (execOp a.eval o).run P w = .ok (.value v) w :=
  fun _ h => ex_load ho hx (load1 ht (by rw [h.cellAt i hL]; exact hv))
/-- A row of cells out of an own block. -/
theorem ldN {t : TypeId} {x : Operand} (vs : List Value) (i b off : Nat) (cs : List Value) (ty : TypeId) (ho : o.op = .load t x) (hx : a.eval x = .pointer (some ⟨b, off, none⟩)) (ht : ∀ w, (isAgg t).run P w = .ok true w)
    (hs : ∀ w, (sizeOf t).run P w = .ok vs.length w) (hL : L[i]? = some ⟨b, cs, ty⟩) (hv : (cs.drop off).take vs.length = vs) : ∀ w, Own w0 L w → (execOp a.eval o).run P w = .ok (.value (.agg vs.toArray)) w :=
  fun _ h => ex_load ho hx (loadN ht hs (fun j v hj => by
    rw [h.cellAt i hL]
    rw [← hv, List.getElem?_take] at hj
    split at hj
    · rw [List.getElem?_drop] at hj; exact hj
    · cases hj))
/-- The same out of memory that was there. -/
theorem ld1o {t : TypeId} {x : Operand} {v : Value} (b off : Nat) (ho : o.op = .load t x) (hx : a.eval x = .pointer (some ⟨b, off, none⟩)) (ht : ∀ w, (isAgg t).run P w = .ok false w)
    (hv : w0.cell? ⟨b, off, none⟩ = some v) : ∀ w, Own w0 L w → (execOp a.eval o).run P w = .ok (.value v) w :=
  fun _ h => ex_load ho hx (load1 ht (h.old hv))
theorem ldNo {t : TypeId} {x : Operand} (vs : List Value) (b off : Nat) (ho : o.op = .load t x) (hx : a.eval x = .pointer (some ⟨b, off, none⟩)) (ht : ∀ w, (isAgg t).run P w = .ok true w)
    (hs : ∀ w, (sizeOf t).run P w = .ok vs.length w) (hv : ∀ j v, vs[j]? = some v → w0.cell? ⟨b, off + j, none⟩ = some v) : ∀ w, Own w0 L w → (execOp a.eval o).run P w = .ok (.value (.agg vs.toArray)) w :=
  fun _ h => ex_load ho hx (loadN ht hs (fun j v hj => h.old (hv j v hj)))
/-- A store of one cell. -/
theorem st1 {t : TypeId} {x y : Operand} {v : Value} {L' : List B} (i b off : Nat) (cs : List Value) (ty : TypeId) (ho : o.op = .store t x y) (hx : a.eval x = .pointer (some ⟨b, off, none⟩)) (hy : a.eval y = v) (hs : ∀ w, (sizeOf t).run P w = .ok 1 w)
    (hv : v.oneCell' = true) (hL : L[i]? = some ⟨b, cs, ty⟩) (hl : off < cs.length) (hL' : L.set i ⟨b, cs.set off v, ty⟩ = L') : ∀ w, Own w0 L w → ∃ w', (execOp a.eval o).run P w = .ok .skip w' ∧ Own w0 L' w' :=
  fun _ h => ⟨_, ex_store ho hx hy (store1 hs hv (h.at i hL) hl), (h.setAt i hL _).eq hL'⟩
/-- A store of a row of cells. -/
theorem stN {t : TypeId} {x y : Operand} {L' : List B} (vs : List Value) (i b off : Nat) (cs : List Value) (ty : TypeId) (ho : o.op = .store t x y) (hx : a.eval x = .pointer (some ⟨b, off, none⟩)) (hy : a.eval y = .agg vs.toArray) (hs : ∀ w, (sizeOf t).run P w = .ok vs.length w)
    (hv : ∀ v ∈ vs, v.oneCell' = true) (hL : L[i]? = some ⟨b, cs, ty⟩) (hl : off + vs.length ≤ cs.length) (hL' : L.set i ⟨b, cs.take off ++ vs ++ cs.drop (off + vs.length), ty⟩ = L') :
    ∀ w, Own w0 L w → ∃ w', (execOp a.eval o).run P w = .ok .skip w' ∧ Own w0 L' w' :=
  fun _ h => ⟨_, ex_store ho hx hy (storeN hs hv (h.at i hL) hl), (h.setAt i hL _).eq hL'⟩
/-- A new block with a value in it. -/
theorem bx {e : TypeId} {x : Operand} (cs : List Value) (ho : o.op = .box e x) (hx : (a.eval x).cells = cs.toArray) :
    ∀ w, Own w0 L w → (execOp a.eval o).run P w = .ok (.value (.pointer (some ⟨w.heap.size, 0, none⟩))) (w.alloc (.cells cs.toArray e)) := fun w _ => by
  unfold execOp
  simp only [ho, Instr.box, newVar, newRow, Sem.run_bind, run_newObj, Result.andThen_ok, Sem.run_pure, hx]
  rfl
theorem al {e : TypeId} (z : Value) (cs : List Value) (ho : o.op = .alloc e) (hz : ∀ w, (zeroValue e).run P w = .ok z w) (hx : z.cells = cs.toArray) :
    ∀ w, Own w0 L w → (execOp a.eval o).run P w = .ok (.value (.pointer (some ⟨w.heap.size, 0, none⟩))) (w.alloc (.cells cs.toArray e)) := fun w _ => by
  unfold execOp
  simp only [ho, Instr.alloc, newVar, newRow, Sem.run_bind, hz, run_newObj, Result.andThen_ok, Sem.run_pure, hx]
  rfl
/-- An element's address. -/
theorem run_indexAt_slice {t e : TypeId} {b off len cap sz n : Nat} {k : IntKind} (ht : P.underlying t = some (.slice e)) (hs : ∀ w, (sizeOf e).run P w = .ok sz w) (hn : n < len) (w : World) :
    (Instr.indexAt t (.slice (some ⟨b, off, none⟩) len cap) (.int k (n : Int))).run P w = .ok (.pointer (some ⟨b, off + n * sz, none⟩)) w := by
  have h1 : 0 ≤ (n : Int) ∧ (n : Int) < (len : Int) := by omega
  simp [Instr.indexAt, asIntOf, Sem.run_bind, run_underlying ht, h1, hs, add_none]
  intro h2; omega
theorem run_indexAt_array {t e : TypeId} {b off len sz n : Nat} {k : IntKind} (ht : P.underlying t = some (.array len e)) (hs : ∀ w, (sizeOf e).run P w = .ok sz w) (hn : n < len) (w : World) :
    (Instr.indexAt t (.pointer (some ⟨b, off, none⟩)) (.int k (n : Int))).run P w = .ok (.pointer (some ⟨b, off + n * sz, none⟩)) w := by
  have h1 : 0 ≤ (n : Int) ∧ (n : Int) < (len : Int) := by omega
  simp [Instr.indexAt, asIntOf, Sem.run_bind, run_underlying ht, Instr.sureAddr, h1, hs, add_none]
  intro h2; omega
theorem ex_index {t : TypeId} {x y : Operand} {u i v : Value} {w : World} (ho : o.op = .indexAddr t x y) (hx : a.eval x = u) (hy : a.eval y = i) (h : (Instr.indexAt t u i).run P w = .ok v w) : (execOp a.eval o).run P w = .ok (.value v) w := by
  unfold execOp
  simp only [ho, hx, hy, Sem.run_bind, h, Result.andThen_ok, Sem.run_pure]
theorem ixS {t e : TypeId} {x y : Operand} {k : IntKind} (b off len cap sz n : Nat) (ho : o.op = .indexAddr t x y) (hx : a.eval x = .slice (some ⟨b, off, none⟩) len cap) (hy : a.eval y = .int k (n : Int)) (ht : P.underlying t = some (.slice e))
    (hs : ∀ w, (sizeOf e).run P w = .ok sz w) (hn : n < len) : ∀ w, (execOp a.eval o).run P w = .ok (.value (.pointer (some ⟨b, off + n * sz, none⟩))) w :=
  fun w => ex_index ho hx hy (run_indexAt_slice ht hs hn w)
theorem ixA {t e : TypeId} {x y : Operand} {k : IntKind} (b off len sz n : Nat) (ho : o.op = .indexAddr t x y) (hx : a.eval x = .pointer (some ⟨b, off, none⟩)) (hy : a.eval y = .int k (n : Int)) (ht : P.underlying t = some (.array len e))
    (hs : ∀ w, (sizeOf e).run P w = .ok sz w) (hn : n < len) : ∀ w, (execOp a.eval o).run P w = .ok (.value (.pointer (some ⟨b, off + n * sz, none⟩))) w :=
  fun w => ex_index ho hx hy (run_indexAt_array ht hs hn w)
/-- An operation that is a call of a Go function with a body. -/
theorem cl {f : FuncId} {args : Array Value} {c : Call} {x : Operand} (ho : o.op = .call c) (hc : c.callee = .value x) (hx : a.eval x = .func (.func f) #[] #[]) (ha : c.args.map a.eval = args)
    (hf : ∀ w, (callFunc f args).run P w = .ok (.enter f args) w) : ∀ w, (execOp a.eval o).run P w = .ok (.enter f args) w := fun w => by
  unfold execOp
  simp only [ho, resolve, hc, hx, Deferred.ofValue, ha, Sem.run_bind, Sem.run_pure, Result.andThen_ok, invoke]
  simpa using hf w
/-- Reals at another spelling. -/
theorem fv {v v' : Value} (e : v = v') {w : World} (h : (execOp a.eval o).run P w = .ok (.value v) w) : (execOp a.eval o).run P w = .ok (.value v') w := e ▸ h
end

section
variable {P : Program} {w0 : World} {L : List B} {Q : Exit → Act → World → Prop} {a : Act}
/-- A loop; what nobody reads any more is 'g'. -/
theorem C_loop' {c : Code} {ι : Type} (I : ι → Prop) (A : ι → (Nat → Value) → Act) (M : ι → List B) (μ : ι → Nat) (i0 : ι) (h0 : I i0) (ha : a = A i0 (fun j => a.tmps.getD j undef)) (hL : L = M i0)
    (h : ∀ i g, I i → C P w0 (M i) c (Exit.then (fun a' w' => ∃ j, I j ∧ a' = A j (fun n => a'.tmps.getD n undef) ∧ μ j < μ i ∧ Own w0 (M j) w') Q) (A i g)) : C P w0 L (.loop c) Q a := by
  intro w hw
  refine wp_loop_ghost (fun n a w => ∃ i, I i ∧ a = A i (fun j => a.tmps.getD j undef) ∧ μ i = n ∧ Own w0 (M i) w) (μ i0) ⟨i0, h0, ha, rfl, hL ▸ hw⟩ ?_
  rintro n a w ⟨i, hI, e, rfl, hw⟩
  generalize (fun j => a.tmps.getD j undef) = g at e
  subst e
  refine wp_mono (h i g hI w hw) ?_
  intro e a' w' q
  cases e with
  | normal => obtain ⟨j, hj, e1, hlt, hwj⟩ := q; exact ⟨_, hlt, j, hj, e1, rfl, hwj⟩
  | _ => exact q
theorem E_round' {ι : Type} {I : ι → Prop} {A : ι → (Nat → Value) → Act} {M : ι → List B} {μ : ι → Nat} {n : Nat} (j : ι) (hI : I j) (ha : a = A j (fun n => a.tmps.getD n undef)) (hlt : μ j < n) (hL : ∀ w, Own w0 L w → Own w0 (M j) w) :
    E w0 L (Exit.then (fun a' w' => ∃ j, I j ∧ a' = A j (fun n => a'.tmps.getD n undef) ∧ μ j < n ∧ Own w0 (M j) w') Q) .normal a := fun w hw => ⟨j, hI, ha, hlt, hL w hw⟩
/-- Forget what nobody reads any more. -/
theorem C_forget {c : Code} (A : (Nat → Value) → Act) (ha : a = A (fun j => a.tmps.getD j undef)) (h : ∀ g, C P w0 L c Q (A g)) : C P w0 L c Q a := by rw [ha]; exact h _
theorem E_forget {e : Exit} (A : (Nat → Value) → Act) (ha : a = A (fun j => a.tmps.getD j undef)) (h : ∀ g, E w0 L Q e (A g)) : E w0 L Q e a := by rw [ha]; exact h _
/-- The end of a round. -/
theorem E_norm {N : Act → World → Prop} (h : ∀ w, Own w0 L w → N a w) : E w0 L (Exit.then N Q) .normal a := h
theorem E_pass_ret {N : Act → World → Prop} (h : E w0 L Q .ret a) : E w0 L (Exit.then N Q) .ret a := h
theorem E_pass_exit {N : Act → World → Prop} {id : Nat} (h : E w0 L Q (.exit id) a) : E w0 L (Exit.then N Q) (.exit id) a := h
/-- The results' cell. -/
theorem res1 {fn : Func} {t : Tmp} (h : fn.results = #[.tmp t]) {v : Value} (hv : a.tmps.getD t undef = v) : ∀ w, Own w0 L w → (results fn a.tmps).run P w = .ok v w := fun w _ => by rw [results_tmp h, hv]
theorem resC {fn : Func} {t : Tmp} {ty : TypeId} (h : fn.results = #[.cell t ty]) (vs : List Value) (i b : Nat) (ty' : TypeId) (hp : a.tmps.getD t undef = .pointer (some ⟨b, 0, none⟩)) (ht : ∀ w, (isAgg ty).run P w = .ok true w)
    (hs : ∀ w, (sizeOf ty).run P w = .ok vs.length w) (hL : L[i]? = some ⟨b, vs, ty'⟩) : ∀ w, Own w0 L w → (results fn a.tmps).run P w = .ok (.agg vs.toArray) w := fun w hO => by
  have hl := run_loadCells_list (P := P) w ⟨b, 0, none⟩ vs (fun j v hv => by rw [add_none, hO.cellAt i hL]; simpa using hv)
  have hp' : a.tmps[t]?.getD undef = .pointer (some ⟨b, 0, none⟩) := by simpa using hp
  simp [results, h, hp', asAddr, loadVar, Sem.run_bind, ht, hs, hl]
/-- A call of a function of values: what is to show of its body. -/
theorem pure_of {f : FuncId} {fn : Func} {c : Code} {args : Array Value} {v : Value} (hf : P.funcs[f]? = some fn) (hb : fn.body = some c)
    (h : ∀ w0, C P w0 [] c (bodyPost P fn (fun e w' => e = .returned v ∧ Below w0.heap.size w0 w')) { tmps := args ++ Array.replicate (fn.ntmps - args.size) undef, defers := [] }) : Pure P f args v :=
  fun w => calls_start hf hb (h w)
theorem pure_ret {fn : Func} {v : Value} (hd : a.defers = []) (hr : ∀ w, Own w0 L w → (results fn a.tmps).run P w = .ok v w) : E w0 L (bodyPost P fn (fun e w' => e = .returned v ∧ Below w0.heap.size w0 w')) .ret a :=
  E_ret v hd hr fun _ h => ⟨rfl, h.below⟩
end
end Go.Vk
namespace Go.Vk
open Go Go.RowKit
section
variable {P : Program} {w0 : World} {L : List B} {Q : Exit → Act → World → Prop} {a : Act}
/-- Loops by the number of what is carried. -/
theorem C_loop1 {c : Code} {α : Type} (I : α → Prop) (A : α → (Nat → Value) → Act) (M : α → List B) (μ : α → Nat) (i0 : α) (h0 : I i0) (ha : a = A i0 (fun j => a.tmps.getD j undef)) (hL : L = M i0)
    (h : ∀ i g, I i → C P w0 (M i) c (Exit.then (fun a' w' => ∃ j, I j ∧ a' = A j (fun n => a'.tmps.getD n undef) ∧ μ j < μ i ∧ Own w0 (M j) w') Q) (A i g)) : C P w0 L (.loop c) Q a :=
  C_loop' I A M μ i0 h0 ha hL h
theorem C_loop2 {c : Code} {α β : Type} (I : α → β → Prop) (A : α → β → (Nat → Value) → Act) (M : α → β → List B) (μ : α → β → Nat) (i0 : α) (j0 : β) (h0 : I i0 j0) (ha : a = A i0 j0 (fun j => a.tmps.getD j undef)) (hL : L = M i0 j0)
    (h : ∀ i j g, I i j → C P w0 (M i j) c (Exit.then (fun a' w' => ∃ i' j', I i' j' ∧ a' = A i' j' (fun n => a'.tmps.getD n undef) ∧ μ i' j' < μ i j ∧ Own w0 (M i' j') w') Q) (A i j g)) : C P w0 L (.loop c) Q a :=
  C_loop' (ι := α × β) (fun x => I x.1 x.2) (fun x => A x.1 x.2) (fun x => M x.1 x.2) (fun x => μ x.1 x.2) (i0, j0) h0 ha hL fun x g hI w hw => by
    refine wp_mono (h x.1 x.2 g hI w hw) ?_
    intro e a' w' q
    cases e with
    | normal => obtain ⟨i, j, h1, h2, h3, h4⟩ := q; exact ⟨(i, j), h1, h2, h3, h4⟩
    | _ => exact q
theorem C_loop3 {c : Code} {α β γ : Type} (I : α → β → γ → Prop) (A : α → β → γ → (Nat → Value) → Act) (M : α → β → γ → List B) (μ : α → β → γ → Nat) (i0 : α) (j0 : β) (k0 : γ) (h0 : I i0 j0 k0) (ha : a = A i0 j0 k0 (fun j => a.tmps.getD j undef)) (hL : L = M i0 j0 k0)
    (h : ∀ i j k g, I i j k → C P w0 (M i j k) c (Exit.then (fun a' w' => ∃ i' j' k', I i' j' k' ∧ a' = A i' j' k' (fun n => a'.tmps.getD n undef) ∧ μ i' j' k' < μ i j k ∧ Own w0 (M i' j' k') w') Q) (A i j k g)) : C P w0 L (.loop c) Q a :=
  C_loop' (ι := α × β × γ) (fun x => I x.1 x.2.1 x.2.2) (fun x => A x.1 x.2.1 x.2.2) (fun x => M x.1 x.2.1 x.2.2) (fun x => μ x.1 x.2.1 x.2.2) (i0, j0, k0) h0 ha hL fun x g hI w hw => by
    refine wp_mono (h x.1 x.2.1 x.2.2 g hI w hw) ?_
    intro e a' w' q
    cases e with
    | normal => obtain ⟨i, j, k, h1, h2, h3, h4⟩ := q; exact ⟨(i, j, k), h1, h2, h3, h4⟩
    | _ => exact q
theorem E_round1 {α : Type} {I : α → Prop} {A : α → (Nat → Value) → Act} {M : α → List B} {μ : α → Nat} {n : Nat} (j : α) (hI : I j) (ha : a = A j (fun n => a.tmps.getD n undef)) (hlt : μ j < n) (hL : ∀ w, Own w0 L w → Own w0 (M j) w) :
    E w0 L (Exit.then (fun a' w' => ∃ j, I j ∧ a' = A j (fun n => a'.tmps.getD n undef) ∧ μ j < n ∧ Own w0 (M j) w') Q) .normal a := fun w hw => ⟨j, hI, ha, hlt, hL w hw⟩
theorem E_round2 {α β : Type} {I : α → β → Prop} {A : α → β → (Nat → Value) → Act} {M : α → β → List B} {μ : α → β → Nat} {n : Nat} (i : α) (j : β) (hI : I i j) (ha : a = A i j (fun n => a.tmps.getD n undef)) (hlt : μ i j < n) (hL : ∀ w, Own w0 L w → Own w0 (M i j) w) :
    E w0 L (Exit.then (fun a' w' => ∃ i j, I i j ∧ a' = A i j (fun n => a'.tmps.getD n undef) ∧ μ i j < n ∧ Own w0 (M i j) w') Q) .normal a := fun w hw => ⟨i, j, hI, ha, hlt, hL w hw⟩
theorem E_round3 {α β γ : Type} {I : α → β → γ → Prop} {A : α → β → γ → (Nat → Value) → Act} {M : α → β → γ → List B} {μ : α → β → γ → Nat} {n : Nat} (i : α) (j : β) (k : γ) (hI : I i j k) (ha : a = A i j k (fun n => a.tmps.getD n undef)) (hlt : μ i j k < n) (hL : ∀ w, Own w0 L w → Own w0 (M i j k) w) :
    E w0 L (Exit.then (fun a' w' => ∃ i j k, I i j k ∧ a' = A i j k (fun n => a'.tmps.getD n undef) ∧ μ i j k < n ∧ Own w0 (M i j k) w') Q) .normal a := fun w hw => ⟨i, j, k, hI, ha, hlt, hL w hw⟩
theorem E_retblock' {id : Nat} (h : E w0 L Q .ret a) : E w0 L (Exit.inBlock id Q) .ret a := h

/-! ### Several results -/
inductive ResL (P : Program) (tmps : Array Value) (w : World) : List ResultVar → List Value → Prop
  | nil : ResL P tmps w [] []
  | tmp {t : Tmp} {v : Value} {rs : List ResultVar} {vs : List Value} (h : tmps.getD t undef = v) (k : ResL P tmps w rs vs) : ResL P tmps w (.tmp t :: rs) (v :: vs)
  | cell {t : Tmp} {ty : TypeId} {v : Value} {rs : List ResultVar} {vs : List Value} {p : Addr} (hp : tmps.getD t undef = .pointer (some p)) (h : (loadVar ty p).run P w = .ok v w) (k : ResL P tmps w rs vs) : ResL P tmps w (.cell t ty :: rs) (v :: vs)
def resOne (tmps : Array Value) : ResultVar → Sem Value
  | .tmp t => pure (tmps.getD t undef)
  | .cell a t => do loadVar t (← asAddr (tmps.getD a undef))
theorem ResL.run {tmps : Array Value} {w : World} {rs : List ResultVar} {vs : List Value} (h : ResL P tmps w rs vs) : (rs.mapM (resOne tmps)).run P w = .ok vs w := by
  induction h with
  | nil => rfl
  | @tmp t v rs vs h k ih =>
    have h1 : (resOne tmps (.tmp t)).run P w = .ok v w := by simp only [resOne, Sem.run_pure, h]
    rw [List.mapM_cons]
    simp only [Sem.run_bind, h1, Sem.run_pure, Result.andThen_ok, ih]
  | @cell t ty v rs vs p hp h k ih =>
    have h1 : (resOne tmps (.cell t ty)).run P w = .ok v w := by simp only [resOne, hp, asAddr, Sem.run_bind, Sem.run_pure, Result.andThen_ok, h]
    rw [List.mapM_cons]
    simp only [Sem.run_bind, h1, Sem.run_pure, Result.andThen_ok, ih]
theorem resM {fn : Func} {rs : List ResultVar} (h : fn.results = rs.toArray) (vs : List Value) (hl : vs.length ≠ 1) (hv : ∀ w, Own w0 L w → ResL P a.tmps w rs vs) : ∀ w, Own w0 L w → (results fn a.tmps).run P w = .ok (.tuple vs.toArray) w := fun w hO => by
  have hr := (hv w hO).run
  have e : results fn a.tmps = (fn.results.mapM (resOne a.tmps)) >>= fun vs => pure (if h : vs.size = 1 then vs[0] else .tuple vs) := rfl
  rw [e, h, List.mapM_toArray, Sem.run_bind, Sem.run_map, hr]
  simp only [Result.andThen_ok, Sem.run_pure]
  rw [dif_neg (by simpa using hl)]
theorem resCell {ty : TypeId} {w : World} (hO : Own w0 L w) (vs : List Value) (i b : Nat) (ty' : TypeId) (ht : ∀ w, (isAgg ty).run P w = .ok true w)
    (hs : ∀ w, (sizeOf ty).run P w = .ok vs.length w) (hL : L[i]? = some ⟨b, vs, ty'⟩) : (loadVar ty ⟨b, 0, none⟩).run P w = .ok (.agg vs.toArray) w := by
  have hl := run_loadCells_list (P := P) w ⟨b, 0, none⟩ vs (fun j v hv => by rw [add_none, hO.cellAt i hL]; simpa using hv)
  simp [loadVar, Sem.run_bind, ht, hs, hl]
theorem resCell1 {ty : TypeId} {w : World} (hO : Own w0 L w) (v : Value) (i b : Nat) (ty' : TypeId) (ht : ∀ w, (isAgg ty).run P w = .ok false w) (hL : L[i]? = some ⟨b, [v], ty'⟩) : (loadVar ty ⟨b, 0, none⟩).run P w = .ok v w := by
  have hc : w.cell? ⟨b, 0, none⟩ = some v := by rw [hO.cellAt i hL]; rfl
  simp [loadVar, Sem.run_bind, ht, hc]
theorem C_trueb {c : Operand} {x y : Code} {t : Bool} (hc : a.eval c = .bool t) (ht : t = true) (h : C P w0 L x Q a) : C P w0 L (.cond c x y) Q a := C_true (hc.trans (by rw [ht])) h
theorem C_falseb {c : Operand} {x y : Code} {t : Bool} (hc : a.eval c = .bool t) (ht : t = false) (h : C P w0 L y Q a) : C P w0 L (.cond c x y) Q a := C_false (hc.trans (by rw [ht])) h
/-! ### A loop of few rounds, round by round -/
def R (P : Program) (w0 : World) (L : List B) (c : Code) (Q : Exit → Act → World → Prop) (n : Nat) (a : Act) : Prop := ∀ w, Own w0 L w → Code.rounds P c Q n a w
theorem C_unroll {c : Code} (n : Nat) (h : R P w0 L c Q n a) : C P w0 L (.loop c) Q a := fun w hw => wp_loop_rounds n (h w hw)
theorem R_succ {c : Code} {n : Nat} (h : C P w0 L c (Exit.then (Code.rounds P c Q n) Q) a) : R P w0 L c Q (n + 1) a := h
theorem E_rounds {c : Code} {n : Nat} (h : R P w0 L c Q n a) : E w0 L (Exit.then (Code.rounds P c Q n) Q) .normal a := h
theorem pure_ret' {fn : Func} {v : Value} (hd : a.defers = []) (hr : ∀ w, Own w0 L w → (results fn a.tmps).run P w = .ok v w) : E w0 L (bodyPost P fn (fun e w' => e = .returned v ∧ Below w0.heap.size w0 w')) .normal a :=
  E_end v hd hr fun _ h => ⟨rfl, h.below⟩
end
end Go.Vk
