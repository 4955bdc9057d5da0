/- Slices of own rows; calls with two ways to come back. -/
import Derived.Test.YtalnkpdahpjmmaaDoorVp
set_option linter.unusedVariables false
set_option linter.unusedSimpArgs false
namespace Go.Vk
open Go Go.RowKit
section
variable {P : Program} {w0 : World} {L : List B} {Q : Exit → Act → World → Prop} {a : Act} {ops : Array Oper} {o : Oper} {rest : List Oper}
theorem S_call2 {f : FuncId} {args : Array Value} {ι κ : Type} (v : ι → Value) (M : ι → List B) (u : κ → Value) (N : κ → List B) (hw : Region.wanted o (yielded ops a.tmps) = true)
    (h : ∀ w, Own w0 L w → (execOp a.eval o).run P w = .ok (.enter f args) w)
    (hc : ∀ w, Own w0 L w → Calls P f args w fun e w' => (∃ x, e = .returned (v x) ∧ Own w (M x) w') ∨ (∃ y, e = .returned (u y) ∧ Own w (N y) w'))
    (k1 : ∀ x, S P w0 (L ++ M x) ops Q rest (a.put o.dst (v x))) (k2 : ∀ y, S P w0 (L ++ N y) ops Q rest (a.put o.dst (u y))) : S P w0 L ops Q (o :: rest) a :=
  S_callN (ι := ι ⊕ κ) (Sum.elim v u) (Sum.elim M N) hw h (fun w hO => (hc w hO).mono fun e w' hh => by
    rcases hh with ⟨x, h1, h2⟩ | ⟨y, h1, h2⟩
    · exact ⟨.inl x, h1, h2⟩
    · exact ⟨.inr y, h1, h2⟩) (fun x => by
    cases x with
    | inl x => exact k1 x
    | inr y => exact k2 y)
/-- s[:h]. -/
theorem sl0 {t e : TypeId} {x hi : Operand} {ao : Option Addr} {len cap sz h : Nat} {k : IntKind} (ht : P.underlying t = some (.slice e)) (hs : ∀ w, (sizeOf e).run P w = .ok sz w) (ho : o.op = .slice t x none (some hi) none) (hx : a.eval x = .slice ao len cap)
    (hhi : a.eval hi = .int k (h : Int)) (h2 : h ≤ len) (hlen : len ≤ cap) : ∀ w, (execOp a.eval o).run P w = .ok (.value (.slice ao h cap)) w := fun w => by
  have hb : (Instr.sliceBounds true len cap none (some (.int k (h : Int))) none).run P w = .ok (0, h, cap) w := by
    have bd : ∀ (k : IntKind) (i y : Nat) (c : BoundsCode), i ≤ y → (Instr.sliceBound (.int k (i : Int)) y c).run P w = .ok i w := fun k i y c hiy => by
      rw [run_sliceBound w k i y c (by omega) (by omega)]; simp
    unfold Instr.sliceBounds
    have : h ≤ cap := by omega
    simp [Sem.run_bind, bd, this]
  have hu : (underlying t).run P w = .ok (.slice e) w := run_underlying ht w
  have hr : (Instr.sliceAt t (.slice ao len cap) none (some (.int k (h : Int))) none).run P w = .ok (.slice ao h cap) w := by
    unfold Instr.sliceAt
    simp only [Sem.run_bind, hu, Result.andThen_ok]
    unfold Instr.slice
    simp only [Sem.run_bind, hu, Result.andThen_ok, hb, hs, Sem.run_pure]
    have : (if cap = 0 then ao else ao.map (·.add (0 * sz))) = ao := by
      split
      · rfl
      · cases ao <;> simp [Addr.add]
    simp [Addr.add]
  unfold execOp
  simp only [ho, hx, hhi, Option.map_none, Option.map_some, Sem.run_bind, hr, Result.andThen_ok, Sem.run_pure]
/-- An element out of an own block that has room behind. -/
theorem ldFs {α : Type} {f : α → List Value} {sz : Nat} {t : TypeId} {x : Operand} (hf : ∀ x, (f x).length = sz) (O : List α) (sp : List Value) (d : α) (k off : Nat) (i b : Nat) (ty : TypeId) (ho : o.op = .load t x) (hx : a.eval x = .pointer (some ⟨b, off, none⟩)) (he : off = k * sz) (hk : k < O.length)
    (ht : ∀ w, (isAgg t).run P w = .ok true w) (hs : ∀ w, (sizeOf t).run P w = .ok sz w) (hL : L[i]? = some ⟨b, O.flatMap f ++ sp, ty⟩) : ∀ w, Own w0 L w → (execOp a.eval o).run P w = .ok (.value (.agg (f (O.getD k d)).toArray)) w := by
  have hfl : (f (O.getD k d)).length = sz := hf _
  subst he
  refine ldN (f (O.getD k d)) i b (k * sz) _ ty ho hx ht (by rw [hfl]; exact hs) hL ?_
  rw [hfl, List.drop_append, List.take_append_of_le_length, flat_at hf O d k hk]
  rw [List.length_drop, flat_length hf]
  have : (k + 1) * sz ≤ O.length * sz := Nat.mul_le_mul_right _ hk
  rw [Nat.succ_mul] at this
  omega
theorem ldFs1 {α : Type} {f : α → List Value} {t : TypeId} {x : Operand} {v : Value} (hf : ∀ x, (f x).length = 1) (O : List α) (sp : List Value) (d : α) (k off : Nat) (i b : Nat) (ty : TypeId) (ho : o.op = .load t x) (hx : a.eval x = .pointer (some ⟨b, off, none⟩)) (he : off = k * 1) (hk : k < O.length)
    (hv : f (O.getD k d) = [v]) (ht : ∀ w, (isAgg t).run P w = .ok false w) (hL : L[i]? = some ⟨b, O.flatMap f ++ sp, ty⟩) : ∀ w, Own w0 L w → (execOp a.eval o).run P w = .ok (.value v) w := by
  subst he
  refine ld1 i b (k * 1) _ ty ho hx ht hL ?_
  have hlt : k * 1 < (O.flatMap f).length := by rw [flat_length hf]; omega
  rw [List.getElem?_append_left hlt]
  have h1 := flat_at hf O d k hk
  rw [hv] at h1
  have h2 : (((O.flatMap f).drop (k * 1)).take 1)[0]? = some v := by rw [h1]; rfl
  rw [List.getElem?_take] at h2
  simpa using h2
end
theorem RdB.drop {α : Type} {w : World} {b off sz : Nat} {f : α → List Value} {xs : List α} (h : RdB w b off sz f xs) (n : Nat) : RdB w b (off + n * sz) sz f (xs.drop n) := fun k x hk j u hu => by
  rw [List.getElem?_drop] at hk
  have := h (n + k) x hk j u hu
  rw [Nat.add_mul] at this
  rw [show off + n * sz + k * sz + j = off + (n * sz + k * sz) + j by omega]; exact this
end Go.Vk
namespace Go.Vk
open Go Go.RowKit
theorem Rd.rdB {α : Type} {w : World} {b off len cap sz : Nat} {f : α → List Value} {xs : List α} (h : Rd w (.slice (some ⟨b, off, none⟩) len cap) sz f xs) : RdB w b off sz f xs := fun k x hk j u hu => by
  obtain ⟨ao, cap', e, hx⟩ := h
  injection e with e1 e2 e3
  obtain ⟨b', off', e', h2⟩ := hx k x hk
  rw [← e1] at e'
  injection e' with e'
  injection e' with e1' e2'
  subst e1'; subst e2'
  exact h2 j u hu
section
variable {P : Program} {w0 : World} {L : List B} {a : Act} {o : Oper} {α : Type} {f : α → List Value} {sz : Nat}
/-- An element out of memory that is known now. -/
theorem ldW {t : TypeId} {x : Operand} (hf : ∀ x, (f x).length = sz) {xs : List α} (d : α) (k b off o2 : Nat) (h : ∀ w, Own w0 L w → RdB w b off sz f xs) (ho : o.op = .load t x) (hx : a.eval x = .pointer (some ⟨b, o2, none⟩)) (he : o2 = off + k * sz) (hk : k < xs.length)
    (ht : ∀ w, (isAgg t).run P w = .ok true w) (hs : ∀ w, (sizeOf t).run P w = .ok sz w) : ∀ w, Own w0 L w → (execOp a.eval o).run P w = .ok (.value (.agg (f (xs.getD k d)).toArray)) w := fun w hO => by
  have hfl : (f (xs.getD k d)).length = sz := hf _
  subst he
  exact ex_load ho hx (loadN ht (by rw [hfl]; exact hs) fun j v hj => (h w hO).at d hk j v hj)
theorem ldW1 {t : TypeId} {x : Operand} {v : Value} {xs : List α} (d : α) (k j b off o2 : Nat) (h : ∀ w, Own w0 L w → RdB w b off sz f xs) (ho : o.op = .load t x) (hx : a.eval x = .pointer (some ⟨b, o2, none⟩)) (he : o2 = off + k * sz + j) (hk : k < xs.length)
    (hv : (f (xs.getD k d))[j]? = some v) (ht : ∀ w, (isAgg t).run P w = .ok false w) : ∀ w, Own w0 L w → (execOp a.eval o).run P w = .ok (.value v) w := fun w hO => by
  subst he
  exact ex_load ho hx (load1 ht ((h w hO).at d hk j v hv))
end
end Go.Vk
