/- Regions that draw their order and hold stores, allocations or calls: one walk of the order of the text serves every order, if whatever may change places is harmless. -/
import Derived.Test.YtalnkpdahpjmmaaDoorVb
import Derived.Still
set_option linter.unusedVariables false
set_option linter.unusedSimpArgs false
namespace Go.Vk
open Go Go.RowKit

/-- lb: it reads blocks of the list Z alone; sb: the own blocks turn, those of Z do not; pure: the same in every world; held: the own blocks stay as they are; eff: they turn; new: one more of them, whatever they are; fr: they turn, whatever others there are; giv: there are more of them. -/
inductive Kd where
  | pure | held | eff | new | fr | giv | lb | sb
  deriving DecidableEq

def compat : Kd → Kd → Bool
  | .pure, _ => true
  | _, .pure => true
  | .held, .held => true
  | .held, .new => true
  | .held, .giv => true
  | .new, .new => true
  | .fr, .new => true
  | .lb, .lb => true
  | .lb, .held => true
  | .held, .lb => true
  | .lb, .sb => true
  | _, _ => false

section
variable (P : Program) (w0 : World) (Z : List Nat)
/-- What an operation comes to: some x of the family. -/
def Upon {ι : Type} (v : ι → Value) (M : ι → List B) : Result Next → Prop
  | .ok (.value u) w' => ∃ x, u = v x ∧ Own w0 (M x) w'
  | .ok .skip w' => ∃ x, v x = undef ∧ Own w0 (M x) w'
  | .ok (.enter f args) w' => Calls P f args w' (fun e w'' => ∃ x, e = .returned (v x) ∧ Own w0 (M x) w'')
  | _ => False
def Acts {ι : Type} (k : Kd) (o : Oper) (a : Act) (L : List B) (v : ι → Value) (M : ι → List B) : Prop :=
  match k with
  | .pure => (∀ x w, Own w0 [] w → (execOp a.eval o).run P w = .ok (.value (v x)) w) ∧ ∀ x, M x = L
  | .held => (∀ x y, v x = v y) ∧ (∀ x, M x = L) ∧ ∀ X w, Own w0 (X ++ L) w → Upon P w0 v (fun _ => X ++ L) ((execOp a.eval o).run P w)
  | .eff => ∀ w, Own w0 L w → Upon P w0 v M ((execOp a.eval o).run P w)
  | .new => ∃ (mk : Nat → Value) (cs : List Value) (ty : TypeId) (nn : ι → Nat), (∀ x, v x = mk (nn x)) ∧ (∀ x, (M x).Perm (⟨nn x, cs, ty⟩ :: L)) ∧ (∀ n, (∀ b ∈ L, b.id ≠ n) → w0.heap.size ≤ n → ∃ x, nn x = n) ∧
      (∀ x, (∀ b ∈ L, b.id ≠ nn x) ∧ w0.heap.size ≤ nn x) ∧ ∀ w, Own w0 [] w → (execOp a.eval o).run P w = .ok (.value (mk w.heap.size)) (w.alloc (.cells cs.toArray ty))
  | .giv => (∀ x, ∃ ob, (M x).Perm (ob ++ L)) ∧ ∀ w, Own w0 L w → Upon P w0 v M ((execOp a.eval o).run P w)
  | .lb => (∀ x y, v x = v y) ∧ (∀ x, M x = L) ∧ ∀ L', (∀ b ∈ L, b.id ∈ Z → b ∈ L') → ∀ X w, Own w0 (X ++ L') w → Upon P w0 v (fun _ => X ++ L') ((execOp a.eval o).run P w)
  | .sb => (∀ x, ∀ b ∈ L, b.id ∈ Z → b ∈ M x) ∧ ∀ w, Own w0 L w → Upon P w0 v M ((execOp a.eval o).run P w)
  | .fr => (∀ x, ∀ b ∈ M x, ∃ c ∈ L, c.id = b.id) ∧ ∀ X w, Own w0 (X ++ L) w → Upon P w0 v (fun x => X ++ M x) ((execOp a.eval o).run P w)
def Does (ops : Array Oper) {ι : Type} (k : Kd) (o : Oper) (a : Act) (L : List B) (v : ι → Value) (M : ι → List B) : Prop :=
  (Region.wanted o (yielded ops a.tmps) = true ∧ Acts P w0 Z k o a L v M) ∨ (Region.wanted o (yielded ops a.tmps) = false ∧ (∀ x, v x = undef) ∧ ∀ x, M x = L)
def xOp (ops : Array Oper) (kd : Nat → Kd) (i : Nat) (K : Act → List B → Prop) (a : Act) (L : List B) : Prop :=
  match ops[i]? with
  | none => K a L
  | some o => ∃ (ι : Type) (_ : Nonempty ι) (v : ι → Value) (M : ι → List B), Does P w0 Z ops (kd i) o a L v M ∧ ∀ x, K (a.put o.dst (v x)) (M x)
def wpAnyX (ops : Array Oper) (kd : Nat → Kd) (K : Act → List B → Prop) : Nat → Array Bool → Act → List B → Prop
  | 0, listed, a, L => Region.ready .any ops listed = [] ∧ K a L
  | fuel + 1, listed, a, L => (Region.ready .any ops listed = [] → K a L) ∧ ∀ i ∈ Region.ready .any ops listed, xOp P w0 Z ops kd i (wpAnyX ops kd K fuel (listed.setIfInBounds i true)) a L
/-- The walk in the order of the text. -/
def DS (ops : Array Oper) (Q : Exit → Act → World → Prop) : List Kd → List Oper → Act → List B → Prop
  | _, [], a, L => E w0 L Q .normal a
  | [], _ :: _, _, _ => False
  | k :: ks, o :: rest, a, L => ∃ (ι : Type) (_ : Nonempty ι) (v : ι → Value) (M : ι → List B), Does P w0 Z ops k o a L v M ∧ ∀ x, DS ops Q ks rest (a.put o.dst (v x)) (M x)
end

section
variable {P : Program} {w0 : World} {Z : List Nat} {ops : Array Oper} {kd : Nat → Kd} {K : Act → List B → Prop}

theorem Acts.congr {ι : Type} {k : Kd} {o : Oper} {a a' : Act} {L : List B} {v : ι → Value} {M : ι → List B} (he : execOp a'.eval o = execOp a.eval o) (h : Acts P w0 Z k o a L v M) : Acts P w0 Z k o a' L v M := by
  cases k <;> simp only [Acts, he] at * <;> exact h
theorem Does.put {ι : Type} {k : Kd} {o : Oper} {a : Act} {L : List B} {v : ι → Value} {M : ι → List B} {dst : Option Tmp} {u : Value} (hs : ∀ cs b, o.op ≠ .select cs b) (hd : ∀ d, dst = some d → d ∉ o.looksAt ops)
    (h : Does P w0 Z ops k o a L v M) : Does P w0 Z ops k o (a.put dst u) L v M := by
  unfold Does at *
  rw [wanted_put o a dst u hd]
  exact h.imp (fun ⟨h1, h2⟩ => ⟨h1, h2.congr (execOp_put o hs a dst u hd)⟩) id
theorem Does.unput {ι : Type} {k : Kd} {o : Oper} {a : Act} {L : List B} {v : ι → Value} {M : ι → List B} {dst : Option Tmp} {u : Value} (hs : ∀ cs b, o.op ≠ .select cs b) (hd : ∀ d, dst = some d → d ∉ o.looksAt ops)
    (h : Does P w0 Z ops k o (a.put dst u) L v M) : Does P w0 Z ops k o a L v M := by
  unfold Does at *
  rw [wanted_put o a dst u hd] at h
  exact h.imp (fun ⟨h1, h2⟩ => ⟨h1, h2.congr (execOp_put o hs a dst u hd).symm⟩) id

/-- An operation that leaves the own blocks as they are: pure, held or not wanted. -/
theorem Does.quiet {ι : Type} {k : Kd} {o : Oper} {a : Act} {L : List B} {v : ι → Value} {M : ι → List B} (hk : (k = .pure ∨ k = .held) ∨ Region.wanted o (yielded ops a.tmps) = false) (h : Does P w0 Z ops k o a L v M) :
    (∀ x, M x = L) ∧ ∀ x y, v x = v y := by
  rcases h with ⟨hw, h⟩ | ⟨hw, h1, h2⟩
  · rcases hk with hk | hk
    · cases k with
      | pure =>
        refine ⟨h.2, fun x y => ?_⟩
        have e1 := h.1 x w0 (Own.start w0)
        rw [h.1 y w0 (Own.start w0)] at e1
        injection e1 with e1
        injection e1 with e1
        exact e1.symm
      | held => exact ⟨h.2.1, h.1⟩
      | eff => rcases hk with hk | hk <;> cases hk
      | new => rcases hk with hk | hk <;> cases hk
      | fr => rcases hk with hk | hk <;> cases hk
      | giv => rcases hk with hk | hk <;> cases hk
      | lb => rcases hk with hk | hk <;> cases hk
      | sb => rcases hk with hk | hk <;> cases hk
    · rw [hw] at hk; cases hk
  · exact ⟨h2, fun x y => by rw [h1, h1]⟩
/-- It does the same where other own blocks stand, if it is pure or not wanted. -/
theorem Does.any {ι : Type} {k : Kd} {o : Oper} {a : Act} {L : List B} {v : ι → Value} {M : ι → List B} (hk : k = .pure ∨ Region.wanted o (yielded ops a.tmps) = false) (h : Does P w0 Z ops k o a L v M) (L' : List B) :
    Does P w0 Z ops k o a L' v (fun _ => L') := by
  rcases h with ⟨hw, h⟩ | ⟨hw, h1, h2⟩
  · rcases hk with rfl | hk
    · exact .inl ⟨hw, h.1, fun _ => rfl⟩
    · rw [hw] at hk; cases hk
  · exact .inr ⟨hw, h1, fun _ => rfl⟩
theorem Does.const {ι : Type} {k : Kd} {o : Oper} {a : Act} {L : List B} {v : ι → Value} {M : ι → List B} (hM : ∀ x, M x = L) (h : Does P w0 Z ops k o a L v M) : Does P w0 Z ops k o a L v (fun _ => L) := by
  have e : M = fun _ => L := funext hM
  rw [← e]; exact h

/-- The greatest of some numbers. -/
theorem above (L : List B) (m : Nat) : ∃ n, (∀ x ∈ L, x.id < n) ∧ m ≤ n := by
  induction L with
  | nil => exact ⟨m, by simp, Nat.le_refl _⟩
  | cons x L ih =>
    obtain ⟨n, h1, h2⟩ := ih
    refine ⟨max n (x.id + 1), fun y hy => ?_, by omega⟩
    rcases List.mem_cons.1 hy with rfl | hy
    · omega
    · have := h1 y hy; omega
theorem Upon.imp {ι : Type} {v : ι → Value} {M M' : ι → List B} (hM : ∀ x w', Own w0 (M x) w' → Own w0 (M' x) w') {r : Result Next} (h : Upon P w0 v M r) : Upon P w0 v M' r := by
  cases r with
  | halt x w' => exact h.elim
  | ok n w' =>
    cases n <;> simp only [Upon] at h ⊢
    case value u => obtain ⟨x, e, hO⟩ := h; exact ⟨x, e, hM _ _ hO⟩
    case skip => obtain ⟨x, e, hO⟩ := h; exact ⟨x, e, hM _ _ hO⟩
    case enter f args => exact h.mono fun _ _ ⟨x, e, hO⟩ => ⟨x, e, hM _ _ hO⟩
theorem perm_frame {X M M' : List B} {b : B} (h : M'.Perm (b :: M)) : ((X ++ [b]) ++ M).Perm (X ++ M') := by
  rw [List.append_assoc]; exact List.Perm.append_left X h.symm
/-- An operation in whose place another that makes a block may stand. -/
theorem exch_new {i j : Nat} {oi oj : Oper} (hj : ops[j]? = some oj) (h1 : ∀ d, oi.dst = some d → d ∉ oj.looksAt ops) (h3 : ∀ d, oj.dst = some d → d ∉ oi.looksAt ops)
    (hsi : ∀ cs b, oi.op ≠ .select cs b) (hsj : ∀ cs b, oj.op ≠ .select cs b)
    (hki : kd i = .new ∨ kd i = .fr) (hkj : kd j = .new) {ι : Type} (ne : Nonempty ι) {v : ι → Value} {M : ι → List B} {a : Act} {L : List B} (hwi : Region.wanted oi (yielded ops a.tmps) = true) (hi : Does P w0 Z ops (kd i) oi a L v M) (hwj : Region.wanted oj (yielded ops a.tmps) = true)
    (hput : ∀ x y, ((a.put oi.dst x).put oj.dst y) = ((a.put oj.dst y).put oi.dst x))
    (h : ∀ x, xOp P w0 Z ops kd j K (a.put oi.dst (v x)) (M x)) :
    xOp P w0 Z ops kd j (fun a' L' => ∃ (ι' : Type) (_ : Nonempty ι') (v' : ι' → Value) (M' : ι' → List B), Does P w0 Z ops (kd i) oi a' L' v' M' ∧ ∀ x, K (a'.put oi.dst (v' x)) (M' x)) a L := by
  have hj' : ∀ x, ∃ (ι' : Type) (_ : Nonempty ι') (v' : ι' → Value) (M' : ι' → List B), Acts P w0 Z .new oj a (M x) v' M' ∧ ∀ y, K ((a.put oi.dst (v x)).put oj.dst (v' y)) (M' y) := fun x => by
    have hx := h x
    unfold xOp at hx
    simp only [hj] at hx
    obtain ⟨ι', ne', v', M', hd, hK⟩ := hx
    have hd := hd.unput hsj h1
    rw [hkj] at hd
    rcases hd with ⟨_, hd⟩ | ⟨hd, _⟩
    · exact ⟨ι', ne', v', M', hd, hK⟩
    · rw [hwj] at hd; cases hd
  obtain ⟨x0⟩ := ne
  obtain ⟨ι0, ne0, v0, M0, ⟨mk, cs, ty, nn, a1, a2, a3, a4, a5⟩, hK0⟩ := hj' x0
  -- the same block and name at every x
  have same : ∀ x, ∀ n, (∀ b ∈ M x, b.id ≠ n) → w0.heap.size ≤ n → ∃ Mx : List B, Mx.Perm (⟨n, cs, ty⟩ :: M x) ∧ K ((a.put oi.dst (v x)).put oj.dst (mk n)) Mx := fun x n hn hs => by
    obtain ⟨ι', ne', v', M', ⟨mk', cs', ty', nn', b1, b2, b3, b4, b5⟩, hK⟩ := hj' x
    obtain ⟨y, rfl⟩ := b3 n hn hs
    have hw : ∀ k, w0.heap.size ≤ k → ∃ w : World, Own w0 [] w ∧ w.heap.size = k := fun k hk => by
      refine ⟨{ w0 with heap := w0.heap ++ Array.replicate (k - w0.heap.size) default }, ⟨⟨rfl, rfl, rfl, by simp, fun q hq => by simp [Array.getElem?_append, hq]⟩, by simp, by simp, by simp⟩, by simp; omega⟩
    obtain ⟨wn, hwn, hsz⟩ := hw (nn' y) hs
    have e1 := a5 wn hwn
    rw [b5 wn hwn] at e1
    injection e1 with e1 e2
    injection e1 with e1
    rw [hsz] at e1
    have e3 : (⟨nn' y, cs', ty'⟩ : B) = ⟨nn' y, cs, ty⟩ := by
      have g1 := congrArg (fun w : World => w.heap[wn.heap.size]?) e2
      simp only [heap_alloc_new] at g1
      injection g1 with g1
      injection g1 with g1 g2
      subst g2
      have g3 : cs' = cs := by simpa using congrArg Array.toList g1
      rw [g3]
    refine ⟨M' y, by rw [← e3]; exact b2 y, ?_⟩
    have := hK y
    rw [b1 y, e1] at this
    exact this
  unfold xOp
  simp only [hj]
  refine ⟨{ n : Nat // (∀ b ∈ L, b.id ≠ n) ∧ w0.heap.size ≤ n }, ?_, fun n => mk n.1, fun n => ⟨n.1, cs, ty⟩ :: L, .inl ⟨hwj, ?_⟩, ?_⟩
  · obtain ⟨m, m1, m2⟩ := above L w0.heap.size
    exact ⟨⟨m, fun b hb => Nat.ne_of_lt (m1 b hb), m2⟩⟩
  · rw [hkj]
    exact ⟨mk, cs, ty, fun n => n.1, fun _ => rfl, fun _ => List.Perm.refl _, fun n hn hs => ⟨⟨n, hn, hs⟩, rfl⟩, fun x => x.2, a5⟩
  rintro ⟨n, hnL, hns⟩
  rcases hi with ⟨_, hi⟩ | ⟨hi, _⟩
  case inr => rw [hwi] at hi; cases hi
  rcases hki with hki | hki
  · rw [hki] at hi ⊢
    obtain ⟨mk', cs', ty', nn', b1, b2, b3, b4, b5⟩ := hi
    have fin : ∀ x : { x : ι // nn' x ≠ n }, ∃ Mx : List B, Mx.Perm (⟨n, cs, ty⟩ :: M x.1) ∧ K ((a.put oi.dst (v x.1)).put oj.dst (mk n)) Mx := fun x => same x.1 n (fun b hb => by
      have hb := (b2 x.1).mem_iff.1 hb
      rcases List.mem_cons.1 hb with rfl | hb
      · exact x.2
      · exact hnL b hb) hns
    refine ⟨{ x : ι // nn' x ≠ n }, ?_, fun x => v x.1, fun x => Classical.choose (fin x), ?_, fun x => ?_⟩
    · obtain ⟨m, m1, m2⟩ := above (⟨n, cs, ty⟩ :: L) w0.heap.size
      obtain ⟨x, hx⟩ := b3 m (fun b hb => Nat.ne_of_lt (m1 b (List.mem_cons_of_mem _ hb))) m2
      exact ⟨⟨x, by rw [hx]; exact (Nat.ne_of_lt (m1 ⟨n, cs, ty⟩ (List.mem_cons_self ..))).symm⟩⟩
    · refine Does.put hsi h3 (.inl ⟨hwi, mk', cs', ty', fun x => nn' x.1, fun x => b1 x.1, fun x => ?_, fun m hm hs => ?_, fun x => ⟨fun b hb => ?_, (b4 x.1).2⟩, b5⟩)
      · refine (Classical.choose_spec (fin x)).1.trans ((List.Perm.cons _ (b2 x.1)).trans (List.Perm.swap _ _ _))
      · obtain ⟨x, hx⟩ := b3 m (fun b hb => hm b (List.mem_cons_of_mem _ hb)) hs
        exact ⟨⟨x, by rw [hx]; exact (hm ⟨n, cs, ty⟩ (List.mem_cons_self ..)).symm⟩, hx⟩
      · rcases List.mem_cons.1 hb with rfl | hb
        · exact x.2.symm
        · exact (b4 x.1).1 b hb
    · exact (hput _ _).subst (motive := fun a' => K a' _) (Classical.choose_spec (fin x)).2
  · rw [hki] at hi ⊢
    obtain ⟨b1, b2⟩ := hi
    have fin : ∀ x : ι, ∃ Mx : List B, Mx.Perm (⟨n, cs, ty⟩ :: M x) ∧ K ((a.put oi.dst (v x)).put oj.dst (mk n)) Mx := fun x => same x n (fun b hb => by
      obtain ⟨c, hc, e⟩ := b1 x b hb
      rw [← e]; exact hnL c hc) hns
    refine ⟨ι, ⟨x0⟩, v, fun x => Classical.choose (fin x), ?_, fun x => ?_⟩
    · refine Does.put hsi h3 (.inl ⟨hwi, fun x b hb => ?_, fun X w hw => ?_⟩)
      · have hb := (Classical.choose_spec (fin x)).1.mem_iff.1 hb
        rcases List.mem_cons.1 hb with rfl | hb
        · exact ⟨_, List.mem_cons_self .., rfl⟩
        · obtain ⟨c, hc, e⟩ := b1 x b hb
          exact ⟨c, List.mem_cons_of_mem _ hc, e⟩
      · have hu := b2 (X ++ [⟨n, cs, ty⟩]) w (by rw [List.append_assoc]; exact hw)
        refine Upon.imp (fun x w' hO => ?_) hu
        exact hO.perm (perm_frame (Classical.choose_spec (fin x)).1).symm
    · exact (hput _ _).subst (motive := fun a' => K a' _) (Classical.choose_spec (fin x)).2
/-- An operation that reads blocks of Z alone, and one behind it. -/
theorem exch_lb {i j : Nat} {oi oj : Oper} (hj : ops[j]? = some oj) (h1 : ∀ d, oi.dst = some d → d ∉ oj.looksAt ops) (h2 : ∀ d, oi.dst = some d → oj.dst ≠ some d) (h3 : ∀ d, oj.dst = some d → d ∉ oi.looksAt ops)
    (hsi : ∀ cs b, oi.op ≠ .select cs b) (hsj : ∀ cs b, oj.op ≠ .select cs b) (hki : kd i = .lb) (hc : compat (kd i) (kd j) = true) {ι : Type} (ne : Nonempty ι) {v : ι → Value} {M : ι → List B} {a : Act} {L : List B}
    (hwi : Region.wanted oi (yielded ops a.tmps) = true) (hi : Does P w0 Z ops (kd i) oi a L v M) (hput : ∀ x y, ((a.put oi.dst x).put oj.dst y) = ((a.put oj.dst y).put oi.dst x))
    (h : ∀ x, xOp P w0 Z ops kd j K (a.put oi.dst (v x)) (M x)) :
    xOp P w0 Z ops kd j (fun a' L' => ∃ (ι' : Type) (_ : Nonempty ι') (v' : ι' → Value) (M' : ι' → List B), Does P w0 Z ops (kd i) oi a' L' v' M' ∧ ∀ x, K (a'.put oi.dst (v' x)) (M' x)) a L := by
  rcases hi with ⟨_, hi⟩ | ⟨hi, _⟩
  case inr => rw [hwi] at hi; cases hi
  rw [hki] at hi hc ⊢
  obtain ⟨hv, hM, hR⟩ := hi
  obtain ⟨x0⟩ := ne
  unfold xOp at *
  simp only [hj] at *
  obtain ⟨ι', ne', v', M', hd, hK⟩ := h x0
  rw [hM x0] at hd
  have hd' := hd.unput hsj h1
  refine ⟨ι', ne', v', M', hd', fun y => ?_⟩
  have keep : ∀ b ∈ L, b.id ∈ Z → b ∈ M' y := by
    rcases hd' with ⟨_, hd'⟩ | ⟨_, _, hd'⟩
    · cases hk : kd j with
      | pure => rw [hk] at hd'; intro b hb _; rw [hd'.2 y]; exact hb
      | held => rw [hk] at hd'; intro b hb _; rw [hd'.2.1 y]; exact hb
      | lb => rw [hk] at hd'; intro b hb _; rw [hd'.2.1 y]; exact hb
      | sb => rw [hk] at hd'; exact hd'.1 y
      | eff => rw [hk] at hc; cases hc
      | new => rw [hk] at hc; cases hc
      | fr => rw [hk] at hc; cases hc
      | giv => rw [hk] at hc; cases hc
    · intro b hb _; rw [hd' y]; exact hb
  refine ⟨ι, ⟨x0⟩, v, fun _ => M' y, Does.put hsi h3 (.inl ⟨hwi, hv, fun _ => rfl, fun L' hL' X w hO => hR L' (fun b hb hz => hL' b (keep b hb hz) hz) X w hO⟩), fun x => ?_⟩
  rw [← hput, hv x x0]; exact hK y
/-- Two operations change places. -/
theorem exch {i j : Nat} {oi oj : Oper} (hj : ops[j]? = some oj) (hap : oi.apart ops oj = true) (hsi : ∀ cs b, oi.op ≠ .select cs b) (hsj : ∀ cs b, oj.op ≠ .select cs b)
    (hc : compat (kd i) (kd j) = true) {ι : Type} (ne : Nonempty ι) {v : ι → Value} {M : ι → List B} {a : Act} {L : List B} (hi : Does P w0 Z ops (kd i) oi a L v M)
    (h : ∀ x, xOp P w0 Z ops kd j K (a.put oi.dst (v x)) (M x)) :
    xOp P w0 Z ops kd j (fun a' L' => ∃ (ι' : Type) (_ : Nonempty ι') (v' : ι' → Value) (M' : ι' → List B), Does P w0 Z ops (kd i) oi a' L' v' M' ∧ ∀ x, K (a'.put oi.dst (v' x)) (M' x)) a L := by
  obtain ⟨h1, h2, h3⟩ := Oper.apart_spec hap
  by_cases hlb : kd i = .lb ∧ Region.wanted oi (yielded ops a.tmps) = true
  · exact exch_lb hj h1 h2 h3 hsi hsj hlb.1 hc ne hlb.2 hi (fun x y => Act.put_comm a x y h2) h
  by_cases hq : (kd i = .pure ∨ kd i = .held) ∨ Region.wanted oi (yielded ops a.tmps) = false
  · unfold xOp at *
    simp only [hj] at *
    obtain ⟨hM, hv⟩ := hi.quiet hq
    obtain ⟨x0⟩ := ne
    obtain ⟨ι', ne', v', M', hd, hK⟩ := h x0
    rw [hM x0] at hd
    have hd' := hd.unput hsj h1
    refine ⟨ι', ne', v', M', hd', fun y => ?_⟩
    have hKy : ∀ x, K ((a.put oj.dst (v' y)).put oi.dst (v x)) (M' y) := fun x => by
      rw [← Act.put_comm a (v x) (v' y) h2, hv x x0]; exact hK y
    by_cases hp : kd i = .pure ∨ Region.wanted oi (yielded ops a.tmps) = false
    · exact ⟨ι, ⟨x0⟩, v, _, (hi.any hp (M' y)).put hsi h3, hKy⟩
    · have hki : kd i = .held := by
        rcases hq with (hq | hq) | hq
        · exact absurd (.inl hq) hp
        · exact hq
        · exact absurd (.inr hq) hp
      have hwi : Region.wanted oi (yielded ops a.tmps) = true := by
        cases hw : Region.wanted oi (yielded ops a.tmps) with
        | true => rfl
        | false => exact absurd (.inr hw) hp
      by_cases hkn : (kd j = .new ∨ kd j = .giv) ∧ Region.wanted oj (yielded ops a.tmps) = true
      · rcases hd' with ⟨_, hd'⟩ | ⟨hd', _⟩
        case inr => rw [hkn.2] at hd'; cases hd'
        obtain ⟨ob, b2⟩ : ∃ ob, (M' y).Perm (ob ++ L) := by
          rcases hkn.1 with hk | hk
          · rw [hk] at hd'
            obtain ⟨mk, cs, ty, nn, b1, b2, b3, b4, b5⟩ := hd'
            exact ⟨[⟨nn y, cs, ty⟩], b2 y⟩
          · rw [hk] at hd'; exact hd'.1 y
        rcases hi with ⟨_, hi⟩ | ⟨hi, _⟩
        case inr => rw [hwi] at hi; cases hi
        rw [hki] at hi
        refine ⟨ι, ⟨x0⟩, v, fun _ => M' y, Does.put hsi h3 (.inl ⟨hwi, ?_⟩), hKy⟩
        rw [hki]
        refine ⟨hi.1, fun _ => rfl, fun X w hO => ?_⟩
        have hp2 : ((X ++ ob) ++ L).Perm (X ++ M' y) := by rw [List.append_assoc]; exact List.Perm.append_left X b2.symm
        exact Upon.imp (fun x w' hO => hO.perm hp2.symm) (hi.2.2 (X ++ ob) w (hO.perm hp2))
      by_cases hjl : kd j = .lb ∧ Region.wanted oj (yielded ops a.tmps) = true
      · have hMy : M' y = L := by
          rcases hd' with ⟨_, hd'⟩ | ⟨hd', _⟩
          · rw [hjl.1] at hd'; exact hd'.2.1 y
          · rw [hjl.2] at hd'; cases hd'
        refine ⟨ι, ⟨x0⟩, v, fun _ => L, ?_, ?_⟩
        · rw [hMy]; exact (hi.const hM).put hsi h3
        · rw [hMy] at hKy; exact hKy
      have hkj : (kd j = .pure ∨ kd j = .held) ∨ Region.wanted oj (yielded ops a.tmps) = false := by
        cases hw : Region.wanted oj (yielded ops a.tmps) with
        | false => exact .inr rfl
        | true =>
          cases hk : kd j with
          | pure => exact .inl (.inl rfl)
          | held => exact .inl (.inr rfl)
          | new => exact absurd ⟨.inl hk, hw⟩ hkn
          | giv => exact absurd ⟨.inr hk, hw⟩ hkn
          | eff => rw [hki, hk] at hc; cases hc
          | fr => rw [hki, hk] at hc; cases hc
          | lb => exact absurd ⟨hk, hw⟩ hjl
          | sb => rw [hki, hk] at hc; cases hc
      have hMy := (hd'.quiet hkj).1 y
      refine ⟨ι, ⟨x0⟩, v, fun _ => L, ?_, ?_⟩
      · rw [hMy]; exact (hi.const hM).put hsi h3
      · rw [hMy] at hKy; exact hKy
  · have hwi : Region.wanted oi (yielded ops a.tmps) = true := by
      cases hw : Region.wanted oi (yielded ops a.tmps) with
      | true => rfl
      | false => exact absurd (.inr hw) hq
    by_cases hwj : Region.wanted oj (yielded ops a.tmps) = true ∧ kd j ≠ .pure
    · have hkj : kd j = .new ∧ (kd i = .new ∨ kd i = .fr) := by
        have q1 : kd i ≠ .pure := fun h => hq (.inl (.inl h))
        have q2 : kd i ≠ .held := fun h => hq (.inl (.inr h))
        have q3 := hwj.2
        have q4 : kd i ≠ .lb := fun h => hlb ⟨h, hwi⟩
        cases hk : kd i <;> cases hk' : kd j <;> simp_all [compat]
      exact exch_new hj h1 h3 hsi hsj hkj.2 hkj.1 ne hwi hi hwj.1 (fun x y => Act.put_comm a x y h2) h
    · have hp0 : kd j = .pure ∨ Region.wanted oj (yielded ops a.tmps) = false := by
        cases hw : Region.wanted oj (yielded ops a.tmps) with
        | true => exact .inl (Decidable.byContradiction fun hk => hwj ⟨hw, hk⟩)
        | false => exact .inr rfl
      unfold xOp at *
      simp only [hj] at *
      obtain ⟨x0⟩ := ne
      obtain ⟨ι', ne', v', M', hd, hK⟩ := h x0
      obtain ⟨y0⟩ := ne'
      have hd0 := hd.unput hsj h1
      have hd1 : Does P w0 Z ops (kd j) oj a L v' (fun _ => L) := Does.any hp0 hd0 L
      have qj : (kd j = .pure ∨ kd j = .held) ∨ Region.wanted oj (yielded ops a.tmps) = false := hp0.imp .inl id
      have hu := (hd1.quiet qj).2
      refine ⟨Unit, ⟨()⟩, fun _ => v' y0, fun _ => L, ?_, fun _ => ⟨ι, ⟨x0⟩, v, M, hi.put hsi h3, fun x => ?_⟩⟩
      · rcases hd1 with ⟨hw, e1⟩ | ⟨hw, e1, e2⟩
        · rcases hp0 with hp0 | hp0
          · rw [hp0] at e1 ⊢
            exact .inl ⟨hw, fun _ w => e1.1 y0 w, fun _ => rfl⟩
          · rw [hw] at hp0; cases hp0
        · exact .inr ⟨hw, fun _ => e1 y0, fun _ => rfl⟩
      · obtain ⟨ι2, ⟨y2⟩, v2, M2, hd2, hK2⟩ := h x
        have hd3 := hd2.unput hsj h1
        have hM2 := (hd3.quiet qj).1
        have hv2 : v2 y2 = v' y0 := by
          rcases hd3 with ⟨hw, e1⟩ | ⟨hw, e1, e2⟩
          · rcases hd1 with ⟨hw', f1⟩ | ⟨hw', f1, f2⟩
            · rcases hp0 with hp0 | hp0
              · rw [hp0] at e1 f1
                have e := e1.1 y2 w0 (Own.start w0)
                rw [f1.1 y0 w0 (Own.start w0)] at e
                injection e with e
                injection e with e
                exact e.symm
              · rw [hw] at hp0; cases hp0
            · rw [hw] at hw'; cases hw'
          · rcases hd1 with ⟨hw', f1⟩ | ⟨hw', f1, f2⟩
            · rw [hw] at hw'; cases hw'
            · rw [e1, f1]
        have hk := hK2 y2
        rw [hM2, hv2, Act.put_comm a (v x) (v' y0) h2] at hk
        exact hk

theorem xOp_mono {i : Nat} {a : Act} {L : List B} {K K' : Act → List B → Prop} (h : ∀ a L, K a L → K' a L) (hh : xOp P w0 Z ops kd i K a L) : xOp P w0 Z ops kd i K' a L := by
  unfold xOp at *
  split
  · rename_i ho; simp only [ho] at hh; exact h _ _ hh
  · rename_i o ho
    simp only [ho] at hh
    obtain ⟨ι, ne, v, M, h1, h2⟩ := hh
    exact ⟨ι, ne, v, M, h1, fun x => h _ _ (h2 x)⟩

theorem firstX {i : Nat} {oi : Oper} (hi : ops[i]? = some oi) (hsel : ∀ (j : Nat) (o : Oper) cs b, ops[j]? = some o → o.op ≠ .select cs b) (bl : Nat → Bool)
    (hbl : ∀ j oj, ops[j]? = some oj → bl j = true → ∃ e ∈ oj.after, Region.binds .any e = true ∧ (e.on = i ∨ bl e.on = true)) :
    ∀ (fuel : Nat) (listed : Array Bool) (a : Act) (L : List B) (ι : Type) (_ne : Nonempty ι) (v : ι → Value) (M : ι → List B),
      (∀ j, bl j = true → listed.getD j true = false) →
      (∀ j oj, ops[j]? = some oj → j ≠ i → listed.getD j true = false → bl j = false → oi.apart ops oj = true ∧ compat (kd i) (kd j) = true) →
      i ∈ Region.ready .any ops listed → Does P w0 Z ops (kd i) oi a L v M →
      (∀ x, wpAnyX P w0 Z ops kd K fuel (listed.setIfInBounds i true) (a.put oi.dst (v x)) (M x)) → wpAnyX P w0 Z ops kd K (fuel + 1) listed a L := by
  intro fuel
  induction fuel with
  | zero =>
    intro listed a L ι ne v M _ _ hr hy H
    refine ⟨fun h => (by rw [h] at hr; cases hr), fun j hj => ?_⟩
    by_cases hji : j = i
    · subst hji
      unfold xOp
      simp only [hi]
      exact ⟨ι, ne, v, M, hy, H⟩
    · have := ready_mono hj hji
      obtain ⟨x0⟩ := ne
      rw [(H x0).1] at this
      cases this
  | succ fuel ih =>
    intro listed a L ι ne v M hun hfree hr hy H
    refine ⟨fun h => (by rw [h] at hr; cases hr), fun j hj => ?_⟩
    by_cases hji : j = i
    · subst hji
      unfold xOp
      simp only [hi]
      exact ⟨ι, ne, v, M, hy, H⟩
    · obtain ⟨hjun, oj, hoj, hall⟩ := mem_ready.1 hj
      have hnb : bl j = false := by
        cases hb : bl j with
        | false => rfl
        | true =>
          obtain ⟨e, he, hbe, ho⟩ := hbl j oj hoj hb
          have h1 := hall e he hbe
          have h0 : listed.getD e.on true = false := by
            rcases ho with ho | ho
            · rw [ho]; exact (mem_ready.1 hr).1
            · exact hun _ ho
          rcases Nat.lt_or_ge e.on listed.size with h' | h'
          · simp [h'] at h0 h1; rw [h0] at h1; cases h1
          · simp [Array.getElem?_eq_none h'] at h1
      obtain ⟨hap, hcm⟩ := hfree j oj hoj hji hjun hnb
      have h2 := exch (K := wpAnyX P w0 Z ops kd K fuel ((listed.setIfInBounds i true).setIfInBounds j true)) hoj hap (fun cs b => hsel i oi cs b hi) (fun cs b => hsel j oj cs b hoj) hcm ne hy
        (fun x => (H x).2 j (ready_mono hj hji))
      have hun' : ∀ k, bl k = true → (listed.setIfInBounds j true).getD k true = false := fun k hk => by
        have hjk : j ≠ k := by rintro rfl; rw [hnb] at hk; cases hk
        rw [getD_set_ne true hjk]; exact hun k hk
      have hfree' : ∀ k ok, ops[k]? = some ok → k ≠ i → (listed.setIfInBounds j true).getD k true = false → bl k = false → oi.apart ops ok = true ∧ compat (kd i) (kd k) = true := fun k ok hk hki hun hno => by
        refine hfree k ok hk hki ?_ hno
        by_cases hjk : j = k
        · subst hjk; exact hjun
        · rw [getD_set_ne true hjk] at hun; exact hun
      refine xOp_mono (fun a' L' ⟨ι', ne', v', M', hd, hk⟩ => ih (listed.setIfInBounds j true) a' L' ι' ne' v' M' hun' hfree' (ready_mono hr (Ne.symm hji)) hd ?_) h2
      intro x
      rw [Array.setIfInBounds_comm _ _ hji]
      exact hk x

/-- What must wait for i. -/
def waits (ops : Array Oper) (i : Nat) : List Nat := (List.range ops.size).foldl (fun acc k => if (match ops[k]? with | some o => o.after.any (fun e => Region.binds .any e && (e.on == i || acc.contains e.on)) | none => false) then k :: acc else acc) []
/-- May operation i go first? -/
def freeX (ops : Array Oper) (kd : Nat → Kd) (listed : Array Bool) (i : Nat) : Bool :=
  match ops[i]? with
  | none => false
  | some oi => let acc := waits ops i
    (acc.all fun j => !listed.getD j true && match ops[j]? with
      | some oj => oj.after.any (fun e => Region.binds .any e && (e.on == i || acc.contains e.on))
      | none => true) && (List.range ops.size).all fun j => j == i || listed.getD j true || acc.contains j || match ops[j]? with
      | some oj => oi.apart ops oj && compat (kd i) (kd j)
      | none => true
theorem freeX_spec {i : Nat} {oi : Oper} {listed : Array Bool} (hi : ops[i]? = some oi) (h : freeX ops kd listed i = true) :
    (∀ j oj, ops[j]? = some oj → (waits ops i).contains j = true → ∃ e ∈ oj.after, Region.binds .any e = true ∧ (e.on = i ∨ (waits ops i).contains e.on = true)) ∧
    (∀ j, (waits ops i).contains j = true → listed.getD j true = false) ∧
    (∀ j oj, ops[j]? = some oj → j ≠ i → listed.getD j true = false → (waits ops i).contains j = false → oi.apart ops oj = true ∧ compat (kd i) (kd j) = true) := by
  simp only [freeX, hi, Bool.and_eq_true, List.all_eq_true, List.mem_range] at h
  obtain ⟨h1, h2⟩ := h
  refine ⟨fun j oj hj hc => ?_, fun j hc => ?_, fun j oj hj hne hun hno => ?_⟩
  · have := (h1 j (List.contains_iff_mem.1 hc)).2
    simp only [hj] at this
    obtain ⟨e, he, hb⟩ := Array.any_eq_true'.1 this
    simp only [Bool.and_eq_true, Bool.or_eq_true, beq_iff_eq] at hb
    exact ⟨e, he, hb.1, hb.2⟩
  · have := (h1 j (List.contains_iff_mem.1 hc)).1
    simpa using this
  · have := h2 j (Array.getElem?_eq_some_iff.1 hj).1
    simp only [hj, hun, hno, Bool.or_eq_true, beq_iff_eq, hne, false_or, Bool.false_eq_true, Bool.and_eq_true] at this
    exact this
def lexFromX (ops : Array Oper) (kd : Nat → Kd) : Nat → Nat → Array Bool → Bool
  | 0, _, listed => (Region.ready .any ops listed).isEmpty
  | fuel + 1, k, listed => (Region.ready .any ops listed).contains k && freeX ops kd listed k && lexFromX ops kd fuel (k + 1) (listed.setIfInBounds k true)
def lexX (ops : Array Oper) (ks : List Kd) : Bool := Region.noSelect ops && lexFromX ops (fun i => ks.getD i .eff) ops.size 0 (Array.replicate ops.size false)

theorem lexAny {Q : Exit → Act → World → Prop} (hs : Region.noSelect ops = true) (all : List Kd) : ∀ (l : List Oper) (ks : List Kd) (k : Nat) (listed : Array Bool) (a : Act) (L : List B), (∀ j, l[j]? = ops[k + j]?) → (∀ j, ks[j]? = all[k + j]?) →
    lexFromX ops (fun i => all.getD i .eff) l.length k listed = true → DS P w0 Z ops Q ks l a L → wpAnyX P w0 Z ops (fun i => all.getD i .eff) (fun a L => E w0 L Q .normal a) l.length listed a L
  | [], _, _, _, _, _, _, _, hB, h => ⟨by simpa [lexFromX] using hB, by unfold DS at h; exact h⟩
  | _ :: _, [], _, _, _, _, _, _, _, h => by unfold DS at h; exact h.elim
  | o :: l, kk :: ks, k, listed, a, L, hl, hks, hB, h => by
    have h0 : ops[k]? = some o := by simpa using (hl 0).symm
    have hk0 : all[k]? = some kk := by simpa using (hks 0).symm
    simp only [List.length_cons, lexFromX, Bool.and_eq_true] at hB
    obtain ⟨⟨hr, hf⟩, hB'⟩ := hB
    unfold DS at h
    obtain ⟨ι, ne, v, M, hd, hK⟩ := h
    obtain ⟨f1, f2, f3⟩ := freeX_spec h0 hf
    refine firstX h0 (Region.noSelect_spec hs) _ f1 l.length listed a L ι ne v M f2 f3 (by simpa using hr) (by simp only [List.getD_eq_getElem?_getD, hk0, Option.getD_some]; exact hd) fun x => ?_
    exact lexAny hs all l ks (k + 1) _ _ _ (fun j => by have := hl (j + 1); simpa [Nat.add_assoc, Nat.add_comm 1 j] using this) (fun j => by have := hks (j + 1); simpa [Nat.add_assoc, Nat.add_comm 1 j] using this) hB' (hK x)

def lexFromO (ops : Array Oper) (kd : Nat → Kd) : List Nat → Array Bool → Bool
  | [], listed => (Region.ready .any ops listed).isEmpty
  | k :: σ, listed => (Region.ready .any ops listed).contains k && freeX ops kd listed k && lexFromO ops kd σ (listed.setIfInBounds k true)
def lexO (ops : Array Oper) (all : List Kd) (σ : List Nat) : Bool := Region.noSelect ops && σ.length == ops.size && σ.all (· < ops.size) && lexFromO ops (fun i => all.getD i .eff) σ (Array.replicate ops.size false)
theorem lexAnyO {Q : Exit → Act → World → Prop} (hs : Region.noSelect ops = true) (all : List Kd) : ∀ (σ : List Nat) (listed : Array Bool) (a : Act) (L : List B), (∀ k ∈ σ, k < ops.size) →
    lexFromO ops (fun i => all.getD i .eff) σ listed = true → DS P w0 Z ops Q (σ.map fun i => all.getD i .eff) (σ.map fun i => ops.getD i default) a L → wpAnyX P w0 Z ops (fun i => all.getD i .eff) (fun a L => E w0 L Q .normal a) σ.length listed a L
  | [], _, _, _, _, hB, h => ⟨by simpa [lexFromO] using hB, by simpa [DS] using h⟩
  | k :: σ, listed, a, L, hlt, hB, h => by
    have hk := hlt k (List.mem_cons_self ..)
    have h0 : ops[k]? = some (ops.getD k default) := by simp [hk]
    simp only [lexFromO, Bool.and_eq_true] at hB
    obtain ⟨⟨hr, hf⟩, hB'⟩ := hB
    simp only [List.map_cons] at h
    unfold DS at h
    obtain ⟨ι, ne, v, M, hd, hK⟩ := h
    obtain ⟨f1, f2, f3⟩ := freeX_spec h0 hf
    refine firstX h0 (Region.noSelect_spec hs) _ f1 σ.length listed a L ι ne v M f2 f3 (by simpa using hr) hd fun x => ?_
    exact lexAnyO hs all σ _ _ _ (fun k hk => hlt k (List.mem_cons_of_mem _ hk)) hB' (hK x)

theorem wpAny_of_X {Q : Exit → Act → World → Prop} : ∀ (fuel : Nat) (listed : Array Bool) (a : Act) (L : List B) (w : World), Own w0 L w →
    wpAnyX P w0 Z ops kd (fun a L => E w0 L Q .normal a) fuel listed a L → wpAny P .any ops Q fuel listed a w
  | 0, _, _, _, w, hw, h => ⟨h.1, h.2 w hw⟩
  | fuel + 1, listed, a, L, w, hw, h => by
    refine ⟨fun h0 => h.1 h0 w hw, fun i hi => ?_⟩
    have hx := h.2 i hi
    unfold xOp at hx
    unfold wpOp
    split
    · rename_i ho; simp only [ho] at hx; exact wpAny_of_X fuel _ _ _ _ hw hx
    · rename_i o ho
      simp only [ho] at hx
      obtain ⟨ι, ne, v, M, hd, hK⟩ := hx
      split
      · rename_i hwant
        refine .inl ?_
        rcases hd with ⟨_, hd⟩ | ⟨hn, _⟩
        case inr => rw [hwant] at hn; cases hn
        have hup : Upon P w0 v M ((execOp a.eval o).run P w) := by
          cases hk : kd i with
          | pure =>
            rw [hk] at hd
            obtain ⟨x0⟩ := ne
            rw [hd.1 x0 w hw.nil]
            exact ⟨x0, rfl, by rw [hd.2]; exact hw⟩
          | held => rw [hk] at hd; exact Upon.imp (fun x w' hO => by rw [hd.2.1 x]; exact hO) (hd.2.2 [] w hw)
          | eff => rw [hk] at hd; exact hd w hw
          | new =>
            rw [hk] at hd
            obtain ⟨mk, cs, ty, nn, b1, b2, b3, b4, b5⟩ := hd
            rw [b5 w hw.nil]
            obtain ⟨x, hx⟩ := b3 w.heap.size (fun b hb => Nat.ne_of_lt (hw.lt hb)) hw.below.size
            exact ⟨x, by rw [b1, hx], (hw.alloc cs ty).perm (by rw [← hx]; exact b2 x)⟩
          | fr => rw [hk] at hd; exact hd.2 [] w hw
          | giv => rw [hk] at hd; exact hd.2 w hw
          | lb => rw [hk] at hd; exact Upon.imp (fun x w' hO => by rw [hd.2.1 x]; exact hO) (hd.2.2 L (fun b hb _ => hb) [] w hw)
          | sb => rw [hk] at hd; exact hd.2 w hw
        unfold Oper.wp
        generalize (execOp a.eval o).run P w = r at hup
        cases r with
        | halt x w' => exact hup.elim
        | ok n w' =>
          cases n <;> simp only [Upon] at hup
          case value u => obtain ⟨x, rfl, hO⟩ := hup; exact wpAny_of_X fuel _ _ _ _ hO (hK x)
          case skip => obtain ⟨x, hx, hO⟩ := hup; rw [Oper.upon_skip, ← hx]; exact wpAny_of_X fuel _ _ _ _ hO (hK x)
          case enter f args =>
            rw [Oper.upon_enter]
            refine hup.mono ?_
            rintro e w'' ⟨x, rfl, hO⟩
            exact wpAny_of_X fuel _ _ _ _ hO (hK x)
      · rename_i hwant
        rcases hd with ⟨hn, _⟩ | ⟨_, hv, hM⟩
        · exact absurd hn hwant
        · obtain ⟨x0⟩ := ne
          have := hK x0
          rw [hv, hM] at this
          exact wpAny_of_X fuel _ _ _ _ hw this

/-- A region that draws its order, by the walk in the order of the text. -/
theorem C_drawnZ (Z : List Nat) {id : Nat} {L : List B} {Q : Exit → Act → World → Prop} {a : Act} {l : List Oper} (ks : List Kd) (hm : P.follows .mixedOrders = true) (hB : lexX l.toArray ks = true) (h : DS P w0 Z l.toArray Q ks l a L) :
    C P w0 L (.region id l.toArray true) Q a := fun w hw => by
  simp only [lexX, Bool.and_eq_true] at hB
  refine wp_region_any hm ?_
  refine wpAny_of_X (Z := Z) (kd := fun i => ks.getD i .eff) _ _ _ L _ hw.drew ?_
  have := lexAny (P := P) (w0 := w0) (Z := Z) (Q := Q) hB.1 ks l ks 0 (Array.replicate l.toArray.size false) a L (by simp) (by simp) (by simpa using hB.2) h
  simpa using this

theorem C_drawn {id : Nat} {L : List B} {Q : Exit → Act → World → Prop} {a : Act} {l : List Oper} (ks : List Kd) (hm : P.follows .mixedOrders = true) (hB : lexX l.toArray ks = true) (h : DS P w0 [] l.toArray Q ks l a L) :
    C P w0 L (.region id l.toArray true) Q a := C_drawnZ [] ks hm hB h
/-- .. by the walk in an order of one's own. -/
theorem C_drawnOZ (Z : List Nat) {id : Nat} {L : List B} {Q : Exit → Act → World → Prop} {a : Act} {l : List Oper} (ks : List Kd) (σ : List Nat) (hm : P.follows .mixedOrders = true) (hB : lexO l.toArray ks σ = true)
    (h : DS P w0 Z l.toArray Q (σ.map fun i => ks.getD i .eff) (σ.map fun i => l.toArray.getD i default) a L) : C P w0 L (.region id l.toArray true) Q a := fun w hw => by
  simp only [lexO, Bool.and_eq_true, beq_iff_eq, List.all_eq_true, decide_eq_true_eq] at hB
  refine wp_region_any hm ?_
  refine wpAny_of_X (Z := Z) (kd := fun i => ks.getD i .eff) _ _ _ L _ hw.drew ?_
  have := lexAnyO (P := P) (w0 := w0) (Z := Z) (Q := Q) hB.1.1.1 ks σ (Array.replicate l.toArray.size false) a L hB.1.2 hB.2 h
  rw [hB.1.1.2] at this
  simpa using this

theorem C_drawnO {id : Nat} {L : List B} {Q : Exit → Act → World → Prop} {a : Act} {l : List Oper} (ks : List Kd) (σ : List Nat) (hm : P.follows .mixedOrders = true) (hB : lexO l.toArray ks σ = true)
    (h : DS P w0 [] l.toArray Q (σ.map fun i => ks.getD i .eff) (σ.map fun i => l.toArray.getD i default) a L) : C P w0 L (.region id l.toArray true) Q a := C_drawnOZ [] ks σ hm hB h

/-! ### Its steps -/
variable {L : List B} {Q : Exit → Act → World → Prop} {a : Act} {o : Oper} {rest : List Oper} {ks : List Kd}
theorem D_nil (h : E w0 L Q .normal a) : DS P w0 Z ops Q [] [] a L := by unfold DS; exact h
theorem D_val (v : Value) (hw : Region.wanted o (yielded ops a.tmps) = true) (h : ∀ w, (execOp a.eval o).run P w = .ok (.value v) w) (k : DS P w0 Z ops Q ks rest (a.put o.dst v) L) : DS P w0 Z ops Q (.pure :: ks) (o :: rest) a L := by
  unfold DS
  exact ⟨Unit, ⟨()⟩, fun _ => v, fun _ => L, .inl ⟨hw, fun _ w _ => h w, fun _ => rfl⟩, fun _ => k⟩
theorem D_not {kk : Kd} (hw : Region.wanted o (yielded ops a.tmps) = false) (k : DS P w0 Z ops Q ks rest (a.put o.dst undef) L) : DS P w0 Z ops Q (kk :: ks) (o :: rest) a L := by
  unfold DS
  exact ⟨Unit, ⟨()⟩, fun _ => undef, fun _ => L, .inr ⟨hw, fun _ => rfl, fun _ => rfl⟩, fun _ => k⟩
theorem D_held (v : Value) (hw : Region.wanted o (yielded ops a.tmps) = true) (h : ∀ w, Own w0 L w → (execOp a.eval o).run P w = .ok (.value v) w) (k : DS P w0 Z ops Q ks rest (a.put o.dst v) L) : DS P w0 Z ops Q (.held :: ks) (o :: rest) a L := by
  unfold DS
  exact ⟨Unit, ⟨()⟩, fun _ => v, fun _ => L, .inl ⟨hw, fun _ _ => rfl, fun _ => rfl, fun X w hO => by rw [h w (hO.sub (List.sublist_append_right _ _))]; exact ⟨(), rfl, hO⟩⟩, fun _ => k⟩
theorem D_call {f : FuncId} {args : Array Value} (v : Value) (hw : Region.wanted o (yielded ops a.tmps) = true) (h : ∀ w, Own w0 L w → (execOp a.eval o).run P w = .ok (.enter f args) w)
    (hc : ∀ w, Own w0 L w → Calls P f args w fun e w' => e = .returned v ∧ Below w.heap.size w w') (k : DS P w0 Z ops Q ks rest (a.put o.dst v) L) : DS P w0 Z ops Q (.held :: ks) (o :: rest) a L := by
  unfold DS
  exact ⟨Unit, ⟨()⟩, fun _ => v, fun _ => L, .inl ⟨hw, fun _ _ => rfl, fun _ => rfl, fun X w hO => by
    have hO' : Own w0 L w := hO.sub (List.sublist_append_right _ _)
    rw [h w hO']; exact (hc w hO').mono fun _ _ ⟨he, hb⟩ => ⟨(), he, hO.call hb⟩⟩, fun _ => k⟩
theorem D_pure {f : FuncId} {args : Array Value} {v : Value} (hw : Region.wanted o (yielded ops a.tmps) = true) (hp : Pure P f args v)
    (h : ∀ w, (execOp a.eval o).run P w = .ok (.enter f args) w) (k : DS P w0 Z ops Q ks rest (a.put o.dst v) L) : DS P w0 Z ops Q (.held :: ks) (o :: rest) a L :=
  D_call v hw (fun w _ => h w) (fun w _ => hp w) k
theorem D_do {L' : List B} (hw : Region.wanted o (yielded ops a.tmps) = true) (h : ∀ w, Own w0 L w → ∃ w', (execOp a.eval o).run P w = .ok .skip w' ∧ Own w0 L' w')
    (k : DS P w0 Z ops Q ks rest (a.put o.dst undef) L') : DS P w0 Z ops Q (.eff :: ks) (o :: rest) a L := by
  unfold DS
  exact ⟨Unit, ⟨()⟩, fun _ => undef, fun _ => L', .inl ⟨hw, fun w hO => by obtain ⟨w', h1, h2⟩ := h w hO; rw [h1]; exact ⟨(), rfl, h2⟩⟩, fun _ => k⟩
theorem D_turn {L' : List B} (v : Value) (hw : Region.wanted o (yielded ops a.tmps) = true) (h : ∀ w, Own w0 L w → ∃ w', (execOp a.eval o).run P w = .ok (.value v) w' ∧ Own w0 L' w')
    (k : DS P w0 Z ops Q ks rest (a.put o.dst v) L') : DS P w0 Z ops Q (.eff :: ks) (o :: rest) a L := by
  unfold DS
  exact ⟨Unit, ⟨()⟩, fun _ => v, fun _ => L', .inl ⟨hw, fun w hO => by obtain ⟨w', h1, h2⟩ := h w hO; rw [h1]; exact ⟨(), rfl, h2⟩⟩, fun _ => k⟩
theorem D_new (cs : List Value) (ty : TypeId) (hw : Region.wanted o (yielded ops a.tmps) = true)
    (h : ∀ w, Own w0 L w → (execOp a.eval o).run P w = .ok (.value (.pointer (some ⟨w.heap.size, 0, none⟩))) (w.alloc (.cells cs.toArray ty)))
    (k : ∀ n, (∀ x ∈ L, x.id < n) → w0.heap.size ≤ n → DS P w0 Z ops Q ks rest (a.put o.dst (.pointer (some ⟨n, 0, none⟩))) (⟨n, cs, ty⟩ :: L)) : DS P w0 Z ops Q (.eff :: ks) (o :: rest) a L := by
  unfold DS
  obtain ⟨m, m1, m2⟩ := above L w0.heap.size
  exact ⟨{ n : Nat // (∀ x ∈ L, x.id < n) ∧ w0.heap.size ≤ n }, ⟨⟨m, m1, m2⟩⟩, fun n => .pointer (some ⟨n.1, 0, none⟩), fun n => ⟨n.1, cs, ty⟩ :: L,
    .inl ⟨hw, fun w hO => by rw [h w hO]; exact ⟨⟨w.heap.size, fun x hx => hO.lt hx, hO.below.size⟩, rfl, hO.alloc cs ty⟩⟩, fun n => k n.1 n.2.1 n.2.2⟩
/-- A value that is known of all memory that was there. -/
theorem D_old (v : Value) (hw : Region.wanted o (yielded ops a.tmps) = true) (h : ∀ w, Own w0 [] w → (execOp a.eval o).run P w = .ok (.value v) w) (k : DS P w0 Z ops Q ks rest (a.put o.dst v) L) : DS P w0 Z ops Q (.pure :: ks) (o :: rest) a L := by
  unfold DS
  exact ⟨Unit, ⟨()⟩, fun _ => v, fun _ => L, .inl ⟨hw, fun _ w hO => h w hO, fun _ => rfl⟩, fun _ => k⟩
/-- A new block, whatever others there are. -/
theorem D_fresh (mk : Nat → Value) (cs : List Value) (ty : TypeId) (hw : Region.wanted o (yielded ops a.tmps) = true) (h : ∀ w, Own w0 [] w → (execOp a.eval o).run P w = .ok (.value (mk w.heap.size)) (w.alloc (.cells cs.toArray ty)))
    (k : ∀ n, (∀ x ∈ L, x.id ≠ n) → w0.heap.size ≤ n → DS P w0 Z ops Q ks rest (a.put o.dst (mk n)) (⟨n, cs, ty⟩ :: L)) : DS P w0 Z ops Q (.new :: ks) (o :: rest) a L := by
  unfold DS
  obtain ⟨m, m1, m2⟩ := above L w0.heap.size
  exact ⟨{ n : Nat // (∀ x ∈ L, x.id ≠ n) ∧ w0.heap.size ≤ n }, ⟨⟨m, fun b hb => Nat.ne_of_lt (m1 b hb), m2⟩⟩, fun n => mk n.1, fun n => ⟨n.1, cs, ty⟩ :: L,
    .inl ⟨hw, mk, cs, ty, fun n => n.1, fun _ => rfl, fun _ => List.Perm.refl _, fun n h1 h2 => ⟨⟨n, h1, h2⟩, rfl⟩, fun x => x.2, h⟩, fun n => k n.1 n.2.1 n.2.2⟩
/-- Own blocks that turn, whatever others there are. -/
theorem D_lb (v : Value) (hw : Region.wanted o (yielded ops a.tmps) = true) (h : ∀ L', (∀ b ∈ L, b.id ∈ Z → b ∈ L') → ∀ w, Own w0 L' w → (execOp a.eval o).run P w = .ok (.value v) w)
    (k : DS P w0 Z ops Q ks rest (a.put o.dst v) L) : DS P w0 Z ops Q (.lb :: ks) (o :: rest) a L := by
  unfold DS
  exact ⟨Unit, ⟨()⟩, fun _ => v, fun _ => L, .inl ⟨hw, fun _ _ => rfl, fun _ => rfl, fun L' hL' X w hO => by
    rw [h (X ++ L') (fun b hb hz => List.mem_append_right _ (hL' b hb hz)) w hO]; exact ⟨(), rfl, hO⟩⟩, fun _ => k⟩
theorem D_sb {L' : List B} (hw : Region.wanted o (yielded ops a.tmps) = true) (hk : ∀ b ∈ L, b.id ∈ Z → b ∈ L') (h : ∀ w, Own w0 L w → ∃ w', (execOp a.eval o).run P w = .ok .skip w' ∧ Own w0 L' w')
    (k : DS P w0 Z ops Q ks rest (a.put o.dst undef) L') : DS P w0 Z ops Q (.sb :: ks) (o :: rest) a L := by
  unfold DS
  exact ⟨Unit, ⟨()⟩, fun _ => undef, fun _ => L', .inl ⟨hw, fun _ => hk, fun w hO => by obtain ⟨w', h1, h2⟩ := h w hO; rw [h1]; exact ⟨(), rfl, h2⟩⟩, fun _ => k⟩
theorem keep_set {L L' : List B} {Z : List Nat} (i : Nat) {b : Nat} {cs : List Value} {ty : TypeId} {y : B} (hL : L[i]? = some ⟨b, cs, ty⟩) (hb : b ∉ Z) (hL' : L.set i y = L') : ∀ c ∈ L, c.id ∈ Z → c ∈ L' := fun c hc hz => by
  subst hL'
  obtain ⟨j, hj⟩ := List.getElem?_of_mem hc
  have hne : i ≠ j := by
    rintro rfl
    rw [hL] at hj
    injection hj with hj
    subst hj
    exact hb hz
  exact List.mem_of_getElem? (i := j) (by rw [List.getElem?_set_ne hne]; exact hj)
theorem D_frame {L' : List B} (v : Value) (hw : Region.wanted o (yielded ops a.tmps) = true) (hid : L'.map B.id = L.map B.id) (h : ∀ X w, Own w0 (X ++ L) w → ∃ w', (execOp a.eval o).run P w = .ok (.value v) w' ∧ Own w0 (X ++ L') w')
    (k : DS P w0 Z ops Q ks rest (a.put o.dst v) L') : DS P w0 Z ops Q (.fr :: ks) (o :: rest) a L := by
  unfold DS
  refine ⟨Unit, ⟨()⟩, fun _ => v, fun _ => L', .inl ⟨hw, fun _ b hb => ?_, fun X w hO => ?_⟩, fun _ => k⟩
  · have : b.id ∈ L.map B.id := by rw [← hid]; exact List.mem_map.2 ⟨b, hb, rfl⟩
    obtain ⟨c, hc, e⟩ := List.mem_map.1 this
    exact ⟨c, hc, e⟩
  · obtain ⟨w', h1, h2⟩ := h X w hO
    rw [h1]; exact ⟨(), rfl, h2⟩
end
end Go.Vk
