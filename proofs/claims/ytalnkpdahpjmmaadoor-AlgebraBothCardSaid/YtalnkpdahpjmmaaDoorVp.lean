/- Calls inside the caller's own memory; panics; what is put off. -/
import Derived.Test.YtalnkpdahpjmmaaDoorVf
import Derived.Recover
set_option linter.unusedVariables false
set_option linter.unusedSimpArgs false
namespace Go.Vk
open Go Go.RowKit
section
variable {P : Program} {w0 : World} {L : List B} {Q : Exit → Act → World → Prop} {a : Act} {ops : Array Oper} {o : Oper} {rest : List Oper}

/-- A call of a function that works in the caller's own blocks. -/
theorem calls_in {f : FuncId} {fn : Func} {c : Code} {args : Array Value} {R : Ending → World → Prop} (hf : P.funcs[f]? = some fn) (hb : fn.body = some c)
    (h : C P w0 L c (bodyPost P fn R) { tmps := args ++ Array.replicate (fn.ntmps - args.size) undef, defers := [] }) : ∀ w, Own w0 L w → Calls P f args w R :=
  fun w hw => calls_of_wp hf hb (h w hw)
theorem calls_startD {f : FuncId} {fn : Func} {c : Code} {args : Array Value} {R : Ending → World → Prop} (hf : P.funcs[f]? = some fn) (hb : fn.body = some c)
    (h : C P w0 [] c (bodyPostD P fn R) { tmps := args ++ Array.replicate (fn.ntmps - args.size) undef, defers := [] }) : Calls P f args w0 R :=
  calls_of_wp_defers hf hb (h w0 (Own.start w0))
/-- An operation that panics. -/
theorem S_panic (v : Value) (hw : Region.wanted o (yielded ops a.tmps) = true) (h : ∀ w, Own w0 L w → (execOp a.eval o).run P w = .halt (.panic v) w) (k : E w0 L Q (.panic [{ v, recovered := false }]) a) :
    S P w0 L ops Q (o :: rest) a := by
  refine ⟨fun w hO => ?_⟩
  unfold wpList
  rw [if_pos hw]
  refine .inl ?_
  unfold Oper.wp
  rw [h w hO]
  exact k w hO
theorem S_defer (d : Deferred) (hw : Region.wanted o (yielded ops a.tmps) = true) (h : ∀ w, Own w0 L w → (execOp a.eval o).run P w = .ok (.defer d) w) (k : S P w0 L ops Q rest ({ a with defers := d :: a.defers }.put o.dst undef)) :
    S P w0 L ops Q (o :: rest) a := by
  refine ⟨fun w hO => ?_⟩
  unfold wpList
  rw [if_pos hw]
  refine .inl ?_
  unfold Oper.wp
  rw [h w hO]
  exact k.go w hO
/-- A call that comes back or panics. -/
theorem S_callX {f : FuncId} {args : Array Value} {ι κ : Type} (v : ι → Value) (M : ι → List B) (ch : κ → List PanicEntry) (N : κ → List B) (hw : Region.wanted o (yielded ops a.tmps) = true)
    (h : ∀ w, Own w0 L w → (execOp a.eval o).run P w = .ok (.enter f args) w)
    (hc : ∀ w, Own w0 L w → Calls P f args w fun e w' => (∃ x, e = .returned (v x) ∧ Own w0 (M x) w') ∨ (∃ y, e = .panicked (ch y) ∧ Own w0 (N y) w'))
    (k1 : ∀ x, S P w0 (M x) ops Q rest (a.put o.dst (v x))) (k2 : ∀ y, E w0 (N y) Q (.panic (ch y)) a) : S P w0 L ops Q (o :: rest) a := by
  refine ⟨fun w hO => ?_⟩
  unfold wpList
  rw [if_pos hw]
  refine .inl ?_
  unfold Oper.wp
  rw [h w hO, Oper.upon_enter]
  refine (hc w hO).mono ?_
  rintro e w' (⟨x, rfl, h1⟩ | ⟨y, rfl, h1⟩)
  · exact (k1 x).go w' h1
  · exact k2 y w' h1
theorem E_pass_panic {N : Act → World → Prop} {ch : List PanicEntry} (h : E w0 L Q (.panic ch) a) : E w0 L (Exit.then N Q) (.panic ch) a := h
theorem E_panicblock {id : Nat} {ch : List PanicEntry} (h : E w0 L Q (.panic ch) a) : E w0 L (Exit.inBlock id Q) (.panic ch) a := h
theorem E_panicbody {fn : Func} {R : Ending → World → Prop} {ch : List PanicEntry} (hd : a.defers = []) (hR : ∀ w, Own w0 L w → R (.panicked ch) w) : E w0 L (bodyPost P fn R) (.panic ch) a := fun w hw => ⟨hd, hR w hw⟩
theorem E_retD {fn : Func} {R : Ending → World → Prop} (h : ∀ w, Own w0 L w → Leaves P fn a.tmps R a.defers .returning w) : E w0 L (bodyPostD P fn R) .ret a := h
theorem E_endD {fn : Func} {R : Ending → World → Prop} (h : ∀ w, Own w0 L w → Leaves P fn a.tmps R a.defers .returning w) : E w0 L (bodyPostD P fn R) .normal a := h
theorem E_panicD {fn : Func} {R : Ending → World → Prop} {ch : List PanicEntry} (h : ∀ w, Own w0 L w → Leaves P fn a.tmps R a.defers (.panicking ch) w) : E w0 L (bodyPostD P fn R) (.panic ch) a := h
end
end Go.Vk
namespace Go.Vk
open Go Go.RowKit
section
variable {P : Program} {w0 : World} {L : List B}
/-- The end of a call that was put off. -/
def PostS (P : Program) (fn : Func) (R : Ending → FrameMode → World → Prop) (u' : FrameMode) : Exit → Act → World → Prop
  | .normal, a, w | .ret, a, w => a.defers = [] ∧ ∃ v, (results fn a.tmps).run P w = .ok v w ∧ R (.returned v) u' w
  | .panic chain, a, w => a.defers = [] ∧ R (.panicked chain) u' w
  | .outgrown, _, w => R .outgrown u' w
  | _, _, _ => False
theorem PostS.body {fn : Func} {R : Ending → FrameMode → World → Prop} {u' : FrameMode} {c₀ : Frame} {cs : List Frame} (e : Exit) (a : Act) (w : World) (h : PostS P fn R u' e a w) : bodyPostS P fn c₀ cs R e a ({ c₀ with mode := u' } :: cs) w := by
  cases e with
  | normal => exact ⟨h.1, u', rfl, h.2⟩
  | ret => exact ⟨h.1, u', rfl, h.2⟩
  | panic ch => exact ⟨h.1, u', rfl, h.2⟩
  | outgrown => exact ⟨u', h⟩
  | _ => exact h
/-- A call that was put off and asks first whether there is a panic. -/
theorem recovers {f : FuncId} {fn : Func} {c : Code} {id : Nat} {o0 o1 : Oper} {args : Array Value} {u u' : FrameMode} {v0 : Value} {R : Ending → FrameMode → World → Prop} (v1 : Value) (hf : P.funcs[f]? = some fn) (hb : fn.body = some (.seq (.region id #[o0, o1] false) c))
    (hu : (u = .returning ∧ u' = .returning ∧ v0 = .nilIface) ∨ (u = .panicking [{ v := v0, recovered := false }] ∧ u' = .panicking [{ v := v0, recovered := true }])) (A0 : Act) (hA : A0 = { tmps := args ++ Array.replicate (fn.ntmps - args.size) undef, defers := [] })
    (g0 : Region.wanted o0 (yielded #[o0, o1] A0.tmps) = true) (h0 : ∀ w, (execOp A0.eval o0).run P w = .ok .recover w)
    (g1 : Region.wanted o1 (yielded #[o0, o1] (A0.put o0.dst v0).tmps) = true) (h1 : ∀ w, (execOp (A0.put o0.dst v0).eval o1).run P w = .ok (.value v1) w)
    (h : C P w0 L c (PostS P fn R u') ((A0.put o0.dst v0).put o1.dst v1)) : ∀ w, Own w0 L w → CallsD P f args u w R := fun w hO => by
  refine callsD_of_wpS hf hb fun c₀ cs hc => ?_
  rw [← hA]
  refine wpS_seq (wpS_region ?_)
  have hr : List.range (#[o0, o1] : Array Oper).size = [0, 1] := rfl
  have fin : (wpOpsS P #[o0, o1] (Exit.thenS (c.wpS P (bodyPostS P fn c₀ cs R)) (bodyPostS P fn c₀ cs R)) [1] (A0.put o0.dst v0) ({ c₀ with mode := u' } :: cs) w) := by
    simp only [wpOpsS, List.getElem?_toArray, List.getElem?_cons_zero, List.getElem?_cons_succ, g1, if_true, h1, Oper.upon, Exit.thenS]
    exact wpS_of_wp (wp_mono (h w hO) fun e a w hp => PostS.body e a w hp)
  rw [hr]
  rcases hu with ⟨e1, e2, e3⟩ | ⟨e1, e2⟩
  · subst e3
    have hcs : recoverD (c₀ :: cs) = none := by simp [recoverD, hc, e1]
    have hm : ({ c₀ with mode := u' } : Frame) = c₀ := by rw [e2, ← e1, ← hc]
    rw [hm] at fin
    rw [wpOpsS]
    simp only [List.getElem?_toArray, List.getElem?_cons_zero, g0, if_true, h0, hcs]
    exact fin
  · have hcs : recoverD (c₀ :: cs) = some (v0, { c₀ with mode := u' } :: cs) := by simp only [recoverD, hc, e1, e2]
    rw [wpOpsS]
    simp only [List.getElem?_toArray, List.getElem?_cons_zero, g0, if_true, h0, hcs]
    exact fin
end
end Go.Vk
namespace Go.Vk
open Go Go.RowKit
theorem E_post {P : Program} {w0 : World} {L : List B} {a : Act} {fn : Func} {R : Ending → FrameMode → World → Prop} {u' : FrameMode} (v : Value) (hd : a.defers = []) (hr : ∀ w, Own w0 L w → (results fn a.tmps).run P w = .ok v w) (hR : ∀ w, Own w0 L w → R (.returned v) u' w) :
    E w0 L (PostS P fn R u') .normal a := fun w hw => ⟨hd, v, hr w hw, hR w hw⟩
end Go.Vk
