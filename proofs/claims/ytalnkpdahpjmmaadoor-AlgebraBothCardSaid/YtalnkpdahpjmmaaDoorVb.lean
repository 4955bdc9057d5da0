/- A small logic of its own for the walks: a state is what the temporaries hold and what the call's own blocks hold; worlds are not named. Built over the kit's wp. -/
import Derived.WalkKit
import Derived.Below
import Derived.Deep.Quiet
import Derived.Deep.LoopGhost
import Derived.KernelRfl
set_option linter.unusedVariables false
set_option linter.unusedSimpArgs false
namespace Go.Vk
open Go Go.RowKit

/-- A block of the call's own: its number, its cells, its row's type. -/
structure B where
  id : Nat
  cs : List Value
  ty : TypeId

/-- The world w: as w0 was below w0's end; the own blocks L hold what L says. -/
structure Own (w0 : World) (L : List B) (w : World) : Prop where
  below : Below w0.heap.size w0 w
  blk : ∀ x ∈ L, w.heap[x.id]? = some (.cells x.cs.toArray x.ty (0, 0))
  fresh : ∀ x ∈ L, w0.heap.size ≤ x.id
  nodup : (L.map B.id).Nodup

theorem Own.start (w : World) : Own w [] w := ⟨Below.refl _ _, by simp, by simp, by simp⟩

theorem Own.lt {w0 : World} {L : List B} {w : World} (h : Own w0 L w) {x : B} (hx : x ∈ L) : x.id < w.heap.size :=
  (Array.getElem?_eq_some_iff.1 (h.blk x hx)).1

theorem Own.drew {w0 : World} {L : List B} {w : World} (h : Own w0 L w) : Own w0 L { w with drawn := w.drawn + 1 } :=
  ⟨h.below.drew, h.blk, h.fresh, h.nodup⟩

theorem Own.call {w0 : World} {L : List B} {w w' : World} (h : Own w0 L w) (hb : Below w.heap.size w w') : Own w0 L w' :=
  ⟨h.below.trans (hb.mono h.below.size), fun x hx => by rw [hb.block _ (h.lt hx)]; exact h.blk x hx, h.fresh, h.nodup⟩

theorem Own.alloc {w0 : World} {L : List B} {w : World} (h : Own w0 L w) (cs : List Value) (ty : TypeId) :
    Own w0 (⟨w.heap.size, cs, ty⟩ :: L) (w.alloc (.cells cs.toArray ty)) := by
  refine ⟨h.below.alloc h.below.size _, ?_, ?_, ?_⟩
  · intro x hx
    rcases List.mem_cons.1 hx with rfl | hx
    · exact heap_alloc_new w _
    · rw [Below.heap_alloc w _ _ (h.lt hx)]; exact h.blk x hx
  · intro x hx
    rcases List.mem_cons.1 hx with rfl | hx
    · exact h.below.size
    · exact h.fresh x hx
  · simp only [List.map_cons, List.nodup_cons]
    refine ⟨fun hm => ?_, h.nodup⟩
    obtain ⟨x, hx, e⟩ := List.mem_map.1 hm
    have := h.lt hx
    omega

theorem Own.tail {w0 : World} {L : List B} {x : B} {w : World} (h : Own w0 (x :: L) w) : Own w0 L w :=
  ⟨h.below, fun y hy => h.blk y (List.mem_cons_of_mem _ hy), fun y hy => h.fresh y (List.mem_cons_of_mem _ hy), by
    have := h.nodup; simp only [List.map_cons, List.nodup_cons] at this; exact this.2⟩

theorem Own.nil {w0 : World} {L : List B} {w : World} (h : Own w0 L w) : Own w0 [] w := ⟨h.below, by simp, by simp, by simp⟩

/-- A sublist of what is known is known. -/
theorem Own.sub {w0 : World} {L L' : List B} {w : World} (h : Own w0 L w) (hs : L'.Sublist L) : Own w0 L' w :=
  ⟨h.below, fun y hy => h.blk y (hs.subset hy), fun y hy => h.fresh y (hs.subset hy), (hs.map B.id).nodup h.nodup⟩

theorem Own.perm {w0 : World} {L L' : List B} {w : World} (h : Own w0 L w) (hs : L'.Perm L) : Own w0 L' w :=
  ⟨h.below, fun y hy => h.blk y (hs.subset hy), fun y hy => h.fresh y (hs.subset hy), ((hs.map B.id).nodup_iff).2 h.nodup⟩

theorem setRow_other' (w : World) (g k : Nat) (cs : Array Value) (h : k ≠ g) : (w.setRow g cs).heap[k]? = w.heap[k]? :=
  setRow_other w g k cs h

/-- What an own block holds is written anew. -/
theorem Own.set {w0 : World} {l1 l2 : List B} {b : Nat} {cs : List Value} {ty : TypeId} {w : World} (h : Own w0 (l1 ++ ⟨b, cs, ty⟩ :: l2) w) (cs' : List Value) :
    Own w0 (l1 ++ ⟨b, cs', ty⟩ :: l2) (w.setRow b cs'.toArray) := by
  have hm : (⟨b, cs, ty⟩ : B) ∈ l1 ++ ⟨b, cs, ty⟩ :: l2 := by simp
  have hb := h.blk _ hm
  have hf := h.fresh _ hm
  have hn := h.nodup
  simp only [List.map_append, List.map_cons] at hn
  have hne : ∀ x ∈ l1 ++ l2, x.id ≠ b := by
    intro x hx e
    rw [List.nodup_append] at hn
    obtain ⟨_, h2, h3⟩ := hn
    rcases List.mem_append.1 hx with hx | hx
    · exact h3 _ (List.mem_map.2 ⟨x, hx, rfl⟩) _ (by simp) e
    · rw [List.nodup_cons] at h2
      exact h2.1 (List.mem_map.2 ⟨x, hx, e⟩)
  refine ⟨⟨h.below.os, h.below.tape, h.below.output, by rw [size_setRow]; exact h.below.size, fun k hk => ?_⟩, ?_, ?_, ?_⟩
  · rw [setRow_other' _ _ _ _ (by simp only at hf; omega)]; exact h.below.block k hk
  · intro x hx
    simp only [List.mem_append, List.mem_cons] at hx
    rcases hx with hx | rfl | hx
    · rw [setRow_other' _ _ _ _ (hne x (by simp [hx]))]; exact h.blk x (by simp [hx])
    · exact setRow_heap w b _ _ _ _ hb
    · rw [setRow_other' _ _ _ _ (hne x (by simp [hx]))]; exact h.blk x (by simp [hx])
  · intro x hx
    simp only [List.mem_append, List.mem_cons] at hx
    rcases hx with hx | rfl | hx
    · exact h.fresh x (by simp [hx])
    · exact hf
    · exact h.fresh x (by simp [hx])
  · simpa using h.nodup

/-! ### Judgements: whatever the world is -/
section
variable (P : Program) (w0 : World) (L : List B)
structure S (ops : Array Oper) (Q : Exit → Act → World → Prop) (rest : List Oper) (a : Act) : Prop where
  go : ∀ w, Own w0 L w → wpList P ops Q rest a w
def C (c : Code) (Q : Exit → Act → World → Prop) (a : Act) : Prop := ∀ w, Own w0 L w → c.wp P Q a w
def E (Q : Exit → Act → World → Prop) (e : Exit) (a : Act) : Prop := ∀ w, Own w0 L w → Q e a w
def QS (ops : Array Oper) (Q : Exit → Act → World → Prop) (rest : List Oper) (a : Act) : Prop :=
  wpQuiet P ops (Own w0 L) (fun a' => ∀ w', Own w0 L w' → Q .normal a' w') rest a
end

section
variable {P : Program} {w0 : World} {L : List B} {Q : Exit → Act → World → Prop} {a : Act} {ops : Array Oper} {o : Oper} {rest : List Oper}

/-! ### Codes -/
theorem C_seq {x y : Code} (h : C P w0 L x (Exit.then (y.wp P Q) Q) a) : C P w0 L (.seq x y) Q a := fun w hw => wp_seq (h w hw)
theorem E_then {y : Code} (h : C P w0 L y Q a) : E w0 L (Exit.then (y.wp P Q) Q) .normal a := h
theorem E_pass {N : Act → World → Prop} {e : Exit} (he : e ≠ .normal) (h : E w0 L Q e a) : E w0 L (Exit.then N Q) e a := fun w hw => by
  have := h w hw
  cases e <;> first | exact absurd rfl he | exact this
theorem C_skip (h : E w0 L Q .normal a) : C P w0 L .skip Q a := fun w hw => wp_skip (h w hw)
theorem C_ret (h : E w0 L Q .ret a) : C P w0 L .ret Q a := fun w hw => wp_ret (h w hw)
theorem C_exit {id : Nat} (h : E w0 L Q (.exit id) a) : C P w0 L (.exit id) Q a := fun w hw => wp_exit (h w hw)
theorem C_block {id : Nat} {c : Code} (h : C P w0 L c (Exit.inBlock id Q) a) : C P w0 L (.block id c) Q a := fun w hw => wp_block (h w hw)
theorem E_inblock {id : Nat} (h : E w0 L Q .normal a) : E w0 L (Exit.inBlock id Q) .normal a := h
theorem E_outblock {id : Nat} (h : E w0 L Q .normal a) : E w0 L (Exit.inBlock id Q) (.exit id) a := fun w hw => by
  simp only [Exit.inBlock, if_true]; exact h w hw
theorem E_overblock {id id' : Nat} (hn : id' ≠ id) (h : E w0 L Q (.exit id') a) : E w0 L (Exit.inBlock id Q) (.exit id') a := fun w hw => by
  simp only [Exit.inBlock, if_neg hn]; exact h w hw
theorem E_retblock {id : Nat} (h : E w0 L Q .ret a) : E w0 L (Exit.inBlock id Q) .ret a := h
theorem C_true {c : Operand} {x y : Code} (hc : a.eval c = .bool true) (h : C P w0 L x Q a) : C P w0 L (.cond c x y) Q a := fun w hw => wp_cond hc (h w hw)
theorem C_false {c : Operand} {x y : Code} (hc : a.eval c = .bool false) (h : C P w0 L y Q a) : C P w0 L (.cond c x y) Q a := fun w hw => wp_cond hc (h w hw)
theorem C_if {c : Operand} {x y : Code} (t : Bool) (hc : a.eval c = .bool t) (h1 : t = true → C P w0 L x Q a) (h2 : t = false → C P w0 L y Q a) : C P w0 L (.cond c x y) Q a := by
  cases t
  · exact C_false hc (h2 rfl)
  · exact C_true hc (h1 rfl)
theorem C_region {id : Nat} {l : List Oper} (h : S P w0 L l.toArray Q l a) : C P w0 L (.region id l.toArray false) Q a := fun w hw => wp_region_lit (h.go w hw)
theorem C_draw {id : Nat} {l : List Oper} (hm : P.follows .mixedOrders = true) (hB : Region.lexB .any l.toArray = true) (h : QS P w0 L l.toArray Q l a) :
    C P w0 L (.region id l.toArray true) Q a := fun _ hw => wp_region_quiet hm hB hw.drew (by unfold QS at h; simpa using h)

/-- A loop: ι says all that is carried from round to round. -/
theorem C_loop {c : Code} {ι : Type} (I : ι → Prop) (A : ι → Act) (M : ι → List B) (μ : ι → Nat) (i0 : ι) (h0 : I i0) (ha : a = A i0) (hL : ∀ w, Own w0 L w → Own w0 (M i0) w)
    (h : ∀ i, I i → C P w0 (M i) c (Exit.then (fun a' w' => ∃ j, I j ∧ a' = A j ∧ μ j < μ i ∧ Own w0 (M j) w') Q) (A i)) : C P w0 L (.loop c) Q a := by
  intro w hw
  refine wp_loop_ghost (fun n a w => ∃ i, I i ∧ a = A i ∧ μ i = n ∧ Own w0 (M i) w) (μ i0) ⟨i0, h0, ha, rfl, hL w hw⟩ ?_
  rintro n a w ⟨i, hI, rfl, rfl, hw⟩
  refine wp_mono (h i hI w hw) ?_
  intro e a' w' q
  cases e with
  | normal => obtain ⟨j, hj, e1, hlt, hwj⟩ := q; exact ⟨_, hlt, j, hj, e1, rfl, hwj⟩
  | _ => exact q
theorem E_round {ι : Type} {I : ι → Prop} {A : ι → Act} {M : ι → List B} {μ : ι → Nat} {n : Nat} (j : ι) (hI : I j) (ha : a = A j) (hlt : μ j < n) (hL : ∀ w, Own w0 L w → Own w0 (M j) w) :
    E w0 L (Exit.then (fun a' w' => ∃ j, I j ∧ a' = A j ∧ μ j < n ∧ Own w0 (M j) w') Q) .normal a := fun w hw => ⟨j, hI, ha, hlt, hL w hw⟩

/-- What is kept of the own blocks. -/
theorem C_weak {c : Code} {L' : List B} (hL : ∀ w, Own w0 L w → Own w0 L' w) (h : C P w0 L' c Q a) : C P w0 L c Q a := fun w hw => h w (hL w hw)
theorem E_weak {e : Exit} {L' : List B} (hL : ∀ w, Own w0 L w → Own w0 L' w) (h : E w0 L' Q e a) : E w0 L Q e a := fun w hw => h w (hL w hw)
theorem C_act {c : Code} (a' : Act) (ha : a = a') (h : C P w0 L c Q a') : C P w0 L c Q a := by rw [ha]; exact h
theorem E_act {e : Exit} (a' : Act) (ha : a = a') (h : E w0 L Q e a') : E w0 L Q e a := by rw [ha]; exact h

/-! ### The end of a body -/
theorem calls_start {f : FuncId} {fn : Func} {c : Code} {args : Array Value} {R : Ending → World → Prop} (hf : P.funcs[f]? = some fn) (hb : fn.body = some c)
    (h : C P w0 [] c (bodyPost P fn R) { tmps := args ++ Array.replicate (fn.ntmps - args.size) undef, defers := [] }) : Calls P f args w0 R :=
  calls_of_wp hf hb (h w0 (Own.start w0))
theorem E_ret {fn : Func} {R : Ending → World → Prop} (v : Value) (hd : a.defers = []) (hr : ∀ w, Own w0 L w → (results fn a.tmps).run P w = .ok v w) (hR : ∀ w, Own w0 L w → R (.returned v) w) :
    E w0 L (bodyPost P fn R) .ret a := fun w hw => ⟨hd, v, hr w hw, hR w hw⟩
theorem E_end {fn : Func} {R : Ending → World → Prop} (v : Value) (hd : a.defers = []) (hr : ∀ w, Own w0 L w → (results fn a.tmps).run P w = .ok v w) (hR : ∀ w, Own w0 L w → R (.returned v) w) :
    E w0 L (bodyPost P fn R) .normal a := fun w hw => ⟨hd, v, hr w hw, hR w hw⟩

/-! ### Operations -/
theorem S_nil (h : E w0 L Q .normal a) : S P w0 L ops Q [] a := ⟨h⟩

/-- An operation that yields a value and leaves the world alone. -/
theorem S_val (v : Value) (hw : Region.wanted o (yielded ops a.tmps) = true) (h : ∀ w, Own w0 L w → (execOp a.eval o).run P w = .ok (.value v) w) (k : S P w0 L ops Q rest (a.put o.dst v)) :
    S P w0 L ops Q (o :: rest) a := by
  refine ⟨fun w hO => ?_⟩
  unfold wpList
  rw [if_pos hw]
  refine .inl ?_
  unfold Oper.wp
  rw [h w hO]
  exact k.go w hO
/-- .. that is not wanted. -/
theorem S_not (hw : Region.wanted o (yielded ops a.tmps) = false) (k : S P w0 L ops Q rest (a.put o.dst undef)) : S P w0 L ops Q (o :: rest) a := by
  refine ⟨fun w hO => ?_⟩
  unfold wpList
  rw [if_neg (by rw [hw]; simp)]
  exact k.go w hO
/-- .. that yields a value and turns the world. -/
theorem S_turn {L' : List B} (v : Value) (hw : Region.wanted o (yielded ops a.tmps) = true) (h : ∀ w, Own w0 L w → ∃ w', (execOp a.eval o).run P w = .ok (.value v) w' ∧ Own w0 L' w')
    (k : S P w0 L' ops Q rest (a.put o.dst v)) : S P w0 L ops Q (o :: rest) a := by
  refine ⟨fun w hO => ?_⟩
  unfold wpList
  rw [if_pos hw]
  refine .inl ?_
  unfold Oper.wp
  obtain ⟨w', h1, h2⟩ := h w hO
  rw [h1]
  exact k.go w' h2
/-- .. that yields nothing and turns the world. -/
theorem S_do {L' : List B} (hw : Region.wanted o (yielded ops a.tmps) = true) (h : ∀ w, Own w0 L w → ∃ w', (execOp a.eval o).run P w = .ok .skip w' ∧ Own w0 L' w')
    (k : S P w0 L' ops Q rest (a.put o.dst undef)) : S P w0 L ops Q (o :: rest) a := by
  refine ⟨fun w hO => ?_⟩
  unfold wpList
  rw [if_pos hw]
  refine .inl ?_
  unfold Oper.wp
  obtain ⟨w', h1, h2⟩ := h w hO
  rw [h1]
  exact k.go w' h2
/-- .. that makes a block: its number is new. -/
theorem S_new (cs : List Value) (ty : TypeId) (hw : Region.wanted o (yielded ops a.tmps) = true)
    (h : ∀ w, Own w0 L w → (execOp a.eval o).run P w = .ok (.value (.pointer (some ⟨w.heap.size, 0, none⟩))) (w.alloc (.cells cs.toArray ty)))
    (k : ∀ n, (∀ x ∈ L, x.id < n) → w0.heap.size ≤ n → S P w0 (⟨n, cs, ty⟩ :: L) ops Q rest (a.put o.dst (.pointer (some ⟨n, 0, none⟩)))) : S P w0 L ops Q (o :: rest) a := by
  refine ⟨fun w hO => ?_⟩
  unfold wpList
  rw [if_pos hw]
  refine .inl ?_
  unfold Oper.wp
  rw [h w hO]
  exact (k _ (fun x hx => hO.lt hx) hO.below.size).go _ (hO.alloc cs ty)
/-- A call: what is known of its result and of the own blocks behind it. -/
theorem S_call {f : FuncId} {args : Array Value} (hw : Region.wanted o (yielded ops a.tmps) = true) (h : ∀ w, Own w0 L w → (execOp a.eval o).run P w = .ok (.enter f args) w)
    (hc : ∀ w, Own w0 L w → Calls P f args w fun e w' => ∃ v L', e = .returned v ∧ Own w0 L' w' ∧ S P w0 L' ops Q rest (a.put o.dst v)) : S P w0 L ops Q (o :: rest) a := by
  refine ⟨fun w hO => ?_⟩
  unfold wpList
  rw [if_pos hw]
  refine .inl ?_
  unfold Oper.wp
  rw [h w hO, Oper.upon_enter]
  refine (hc w hO).mono ?_
  rintro e w' ⟨v, L', rfl, h1, h2⟩
  exact h2.go w' h1

/-- A function of values alone: it hands back v, whatever the world is, and turns nothing that was there. -/
def Pure (P : Program) (f : FuncId) (args : Array Value) (v : Value) : Prop := ∀ w, Calls P f args w fun e w' => e = .returned v ∧ Below w.heap.size w w'

theorem S_pure {f : FuncId} {args : Array Value} {v : Value} (hw : Region.wanted o (yielded ops a.tmps) = true) (hp : Pure P f args v)
    (h : ∀ w, (execOp a.eval o).run P w = .ok (.enter f args) w) (k : S P w0 L ops Q rest (a.put o.dst v)) : S P w0 L ops Q (o :: rest) a :=
  S_call hw (fun w _ => h w) fun w hO => (hp w).mono fun _ _ ⟨he, hb⟩ => ⟨v, L, he, hO.call hb, k⟩

/-! ### Regions that draw their order, all of whose operations are quiet -/
theorem Q_nil (h : E w0 L Q .normal a) : QS P w0 L ops Q [] a := h
theorem Q_val (v : Value) (hw : Region.wanted o (yielded ops a.tmps) = true) (h : ∀ w, Own w0 L w → (execOp a.eval o).run P w = .ok (.value v) w) (k : QS P w0 L ops Q rest (a.put o.dst v)) :
    QS P w0 L ops Q (o :: rest) a := by
  unfold QS wpQuiet
  rw [if_pos hw]
  exact ⟨v, fun w hO => by unfold Oper.quietAt; rw [h w hO]; exact ⟨rfl, rfl⟩, k⟩
theorem Q_not (hw : Region.wanted o (yielded ops a.tmps) = false) (k : QS P w0 L ops Q rest (a.put o.dst undef)) : QS P w0 L ops Q (o :: rest) a := by
  unfold QS wpQuiet
  rw [if_neg (by rw [hw]; simp)]
  exact k
theorem Q_call {f : FuncId} {args : Array Value} (v : Value) (hw : Region.wanted o (yielded ops a.tmps) = true) (h : ∀ w, Own w0 L w → (execOp a.eval o).run P w = .ok (.enter f args) w)
    (hc : ∀ w, Own w0 L w → Calls P f args w fun e w' => e = .returned v ∧ Below w.heap.size w w') (k : QS P w0 L ops Q rest (a.put o.dst v)) : QS P w0 L ops Q (o :: rest) a := by
  unfold QS wpQuiet
  rw [if_pos hw]
  exact ⟨v, fun w hO => by unfold Oper.quietAt; rw [h w hO]; exact ⟨rfl, (hc w hO).mono fun _ _ ⟨he, hb⟩ => ⟨he, hO.call hb⟩⟩, k⟩
theorem Q_pure {f : FuncId} {args : Array Value} {v : Value} (hw : Region.wanted o (yielded ops a.tmps) = true) (hp : Pure P f args v)
    (h : ∀ w, (execOp a.eval o).run P w = .ok (.enter f args) w) (k : QS P w0 L ops Q rest (a.put o.dst v)) : QS P w0 L ops Q (o :: rest) a :=
  Q_call v hw (fun w _ => h w) (fun w _ => hp w) k
end

/-! ### What single operations do -/
section
variable {P : Program} {w0 : World} {L : List B} {a : Act} {o : Oper}

theorem ex_load {t : TypeId} {x : Operand} {p v : Value} {w : World} (ho : o.op = .load t x) (hx : a.eval x = p) (h : (Instr.loadAt t p).run P w = .ok v w) : (execOp a.eval o).run P w = .ok (.value v) w := by
  unfold execOp
  simp only [ho, hx, Sem.run_bind, h, Result.andThen_ok, Sem.run_pure]
theorem ex_store {t : TypeId} {x y : Operand} {p v : Value} {w w' : World} (ho : o.op = .store t x y) (hx : a.eval x = p) (hy : a.eval y = v) (h : (Instr.storeAt t p v).run P w = .ok () w') :
    (execOp a.eval o).run P w = .ok .skip w' := by
  unfold execOp
  simp only [ho, hx, hy, Sem.run_bind, h, Result.andThen_ok, Sem.run_pure]

theorem add_none (b off i : Nat) : (⟨b, off, none⟩ : Addr).add i = ⟨b, off + i, none⟩ := by unfold Addr.add; split <;> simp_all

/-- A load of one cell. -/
theorem load1 {t : TypeId} {b off : Nat} {v : Value} {w : World} (ht : ∀ w, (isAgg t).run P w = .ok false w) (h : w.cell? ⟨b, off, none⟩ = some v) :
    (Instr.loadAt t (.pointer (some ⟨b, off, none⟩))).run P w = .ok v w := by
  unfold Instr.loadAt Instr.sureAddr loadVar
  simp [Sem.run_bind, ht, h]
/-- A load of a row of cells. -/
theorem loadN {t : TypeId} {b off : Nat} {cs : List Value} {w : World} (ht : ∀ w, (isAgg t).run P w = .ok true w) (hs : ∀ w, (sizeOf t).run P w = .ok cs.length w)
    (h : ∀ j v, cs[j]? = some v → w.cell? ⟨b, off + j, none⟩ = some v) : (Instr.loadAt t (.pointer (some ⟨b, off, none⟩))).run P w = .ok (.agg cs.toArray) w := by
  have hl := run_loadCells_list (P := P) w ⟨b, off, none⟩ cs (fun j v hv => by rw [add_none]; exact h j v hv)
  unfold Instr.loadAt Instr.sureAddr loadVar
  simp [Sem.run_bind, ht, hs, hl]
theorem Own.cell {x : B} {w : World} (h : Own w0 L w) (hx : x ∈ L) (off : Nat) : w.cell? ⟨x.id, off, none⟩ = x.cs[off]? := by
  rw [cell_of_row w x.id off _ _ _ (h.blk x hx)]; simp
/-- .. of memory that was there. -/
theorem Own.old {w : World} (h : Own w0 L w) {p : Addr} {v : Value} (hp : w0.cell? p = some v) : w.cell? p = some v := by
  rw [h.below.cell (block_lt_of_cell hp)]; exact hp

/-- A store of one cell. -/
theorem store1 {t : TypeId} {b off : Nat} {v : Value} {cs : List Value} {ty : TypeId} {w : World} (hs : ∀ w, (sizeOf t).run P w = .ok 1 w) (hv : v.oneCell' = true) (hb : w.heap[b]? = some (.cells cs.toArray ty (0, 0))) (hl : off < cs.length) :
    (Instr.storeAt t (.pointer (some ⟨b, off, none⟩)) v).run P w = .ok () (w.setRow b (cs.set off v).toArray) := by
  have hc : v.cells = #[v] := by cases v <;> simp_all [Value.cells, Value.oneCell']
  have hst := run_storeCells_at P b off ty [v] 0 cs.toArray w hb (by simp; omega) (by simpa using hv)
  unfold Instr.storeAt Instr.sureAddr storeVar
  simp only [Sem.run_bind, Sem.run_pure, Result.andThen_ok, hs, hc]
  simp only [List.size_toArray, List.length_cons, List.length_nil, ne_eq, not_true_eq_false, if_false]
  rw [hst]
  congr 3
  simp only [Nat.add_zero, List.length_cons, List.length_nil]
  rw [List.set_eq_take_append_cons_drop, if_pos hl]
  simp
/-- A store of a row of cells. -/
theorem storeN {t : TypeId} {b off : Nat} {vs cs : List Value} {ty : TypeId} {w : World} (hs : ∀ w, (sizeOf t).run P w = .ok vs.length w) (hv : ∀ v ∈ vs, v.oneCell' = true) (hb : w.heap[b]? = some (.cells cs.toArray ty (0, 0))) (hl : off + vs.length ≤ cs.length) :
    (Instr.storeAt t (.pointer (some ⟨b, off, none⟩)) (.agg vs.toArray)).run P w = .ok () (w.setRow b (cs.take off ++ vs ++ cs.drop (off + vs.length)).toArray) := by
  have hst := run_storeCells_at P b off ty vs 0 cs.toArray w hb (by simpa using hl) hv
  unfold Instr.storeAt Instr.sureAddr storeVar
  simp only [Sem.run_bind, Sem.run_pure, Result.andThen_ok, hs, Value.cells]
  simp only [List.size_toArray, ne_eq, not_true_eq_false, if_false]
  rw [hst]
  simp
end
end Go.Vk
