/- Solve over Seven: what it needs. -/
import Derived.Test.YtalnkpdahpjmmaaDoorSevenD
set_option linter.unusedVariables false
set_option linter.unusedSimpArgs false
namespace Go.Vk
open Go Go.RowKit Go.Proofs

/-- append into an array that has room. -/
theorem ap_room {P : Program} {w0 : World} {L L' : List B} {a : Act} {o : Oper} {α : Type} {f : α → List Value} (hf : ∀ x, (f x).length = 1) (hf1 : ∀ x, ∀ u ∈ f x, u.oneCell' = true) (t e : TypeId) (i : TypeInfo) (ht : P.underlying t = some (.slice e)) (hi : P.info? e = some i) (hsz : i.size = 1)
    {s x : Operand} (ho : o.op = .call { callee := .builtin .append, args := #[s, x], argTypes := #[t, t] }) (g n n' cap j : Nat) (O X : List α) (hL : L[j]? = some ⟨g, O.flatMap f, e⟩) (hO : O.length = cap) (ad : Addr) (m c : Nat)
    (hs : a.eval s = .slice (some ⟨g, 0, none⟩) n cap) (hx : a.eval x = .slice (some ad) m c) (hX : X.length = m) (hnews : ∀ w, Own w0 L w → ∀ j u, (X.flatMap f)[j]? = some u → w.cell? (ad.add j) = some u) (hroom : n + m ≤ cap) (hn' : n + m = n')
    (hL' : L.set j ⟨g, (O.take n ++ X ++ O.drop (n + m)).flatMap f, e⟩ = L') :
    ∀ w, Own w0 L w → ∃ w', (execOp a.eval o).run P w = .ok (.value (.slice (some ⟨g, 0, none⟩) n' cap)) w' ∧ Own w0 L' w' := fun w hw => by
  subst hn'
  have hg := hw.at j hL
  have hfl := flat_length hf O
  have hxl := flat_length hf X
  have hrun := run_append_room (P := P) w t o.type e i ht hi g n cap _ hg ad m c (X.flatMap f) (by rw [hxl, hX, hsz]) (hnews w hw) (by intro u hu; obtain ⟨y, _, hy⟩ := List.mem_flatMap.1 hu; exact hf1 y u hy) hroom
    (by simp only [List.size_toArray]; rw [hfl, hxl, hsz, hX, hO]; omega)
  refine ⟨_, ?_, (hw.setAt j hL _).eq hL'⟩
  unfold execOp
  simp only [ho, resolve, invoke, builtin, Sem.run_bind, Sem.run_pure, Result.andThen_ok, List.map_toArray, List.map_cons, List.map_nil, hs, hx, hrun]
  congr 3
  rw [hsz, Nat.mul_one, hxl, hX, Nat.mul_one]
  have e1 := flat_take hf O n
  have e2 := flat_drop hf O (n + m)
  simp only [Nat.mul_one] at e1 e2
  simp only [e1, e2, List.flatMap_append]

theorem room1 {n : Nat} (X : List Int) : (List.replicate (n + 1) (0 : Int)).take 0 ++ X ++ (List.replicate (n + 1) (0 : Int)).drop (0 + n) = X ++ [0] := by
  rw [List.take_zero, List.nil_append, List.drop_replicate, show n + 1 - (0 + n) = 1 by omega]; rfl
theorem room2 {n : Nat} {X : List Int} (y : Int) (hX : X.length = n) : (X ++ [0]).take n ++ [y] ++ (X ++ [0]).drop (n + 1) = X ++ [y] := by
  subst hX; rw [List.take_left, List.drop_of_length_le (by simp), List.append_nil]
theorem RdB.news {w0 : World} {L : List B} {α : Type} {f : α → List Value} {b off : Nat} {xs : List α} (hf : ∀ x, (f x).length = 1) (h : RdB w0 b off 1 f xs) : ∀ w, Own w0 L w → ∀ j u, (xs.flatMap f)[j]? = some u → w.cell? ((⟨b, off, none⟩ : Addr).add j) = some u := fun w hO j u hu => by
  have hl := flat_length hf xs
  have hj : j < xs.length := by have := (List.getElem?_eq_some_iff.1 hu).1; omega
  have h1 := flat_at hf xs xs[j] j hj
  have hg : xs.getD j xs[j] = xs[j] := gdz hj
  rw [hg] at h1
  have h2 : (f xs[j])[0]? = some u := by rw [← h1, List.getElem?_take, if_pos (by omega), List.getElem?_drop]; simpa using hu
  have := h j xs[j] (List.getElem?_eq_getElem hj) 0 u h2
  rw [add_none, hO.below.cell (block_lt_of_cell (by simpa using this))]
  simpa using this
theorem Rw.one {e : TypeId} {sz n : Nat} {v : Value} {xs : List Value} {ob : List B} (h : Rw e sz v n xs ob) : v.oneCell' = true := by
  obtain ⟨ao, cap, rfl⟩ := h.len; rfl
def fo' (m : Nat) : Option Nat → List Value
  | some i => [.slice (some ⟨i, 0, none⟩) m m]
  | none => [.slice none 0 0]
theorem fo'_len (m : Nat) (i : Option Nat) : (fo' m i).length = 1 := by cases i <;> rfl
theorem fo'_one (m : Nat) (i : Option Nat) : ∀ v ∈ fo' m i, v.oneCell' = true := by cases i <;> (intro v hv; simp [fo'] at hv; subst hv; rfl)
theorem fo'_fo (m : Nat) (ids : List Nat) : (ids.map some).flatMap (fo' m) = ids.flatMap (fo m) := by
  induction ids with
  | nil => rfl
  | cons i ids ih => simp only [List.map_cons, List.flatMap_cons, ih]; rfl
/-- The outer list when the first rows are there. -/
def ofs (n : Nat) (ids : List Nat) : List (Option Nat) := ids.map some ++ List.replicate (n - ids.length) none
theorem ofs_length {n : Nat} {ids : List Nat} (h : ids.length ≤ n) : (ofs n ids).length = n := by simp [ofs]; omega
theorem ofs_set {n : Nat} {ids : List Nat} (g : Nat) (h : ids.length < n) : (ofs n ids).set ids.length (some g) = ofs n (ids ++ [g]) := by
  unfold ofs
  rw [List.set_append_right _ _ (by simp), List.length_map, Nat.sub_self]
  have e : n - ids.length = (n - (ids ++ [g]).length) + 1 := by simp; omega
  rw [e, List.replicate_succ, List.set_cons_zero]
  simp
theorem ofs_full {n : Nat} {ids : List Nat} (h : ids.length = n) (m : Nat) : (ofs n ids).flatMap (fo' m) = ids.flatMap (fo m) := by
  unfold ofs; rw [h, Nat.sub_self, List.replicate_zero, List.append_nil, fo'_fo]
/-- The matrix with the right side, its first i rows. -/
def mag (A : List (List Int)) (b : List Int) : Nat → List (List Int)
  | 0 => []
  | i + 1 => mag A b i ++ [A.getD i [] ++ [b.getD i 0]]
theorem mag_length (A : List (List Int)) (b : List Int) (i : Nat) : (mag A b i).length = i := by
  induction i with
  | zero => rfl
  | succ i ih => simp [mag, ih]
theorem mag_get (A : List (List Int)) (b : List Int) (i : Nat) : ∀ j, j < i → (mag A b i).getD j [] = A.getD j [] ++ [b.getD j 0] := by
  induction i with
  | zero => intro j h; omega
  | succ i ih =>
    intro j h
    rw [mag, List.getD_eq_getElem?_getD]
    by_cases hj : j < i
    · rw [List.getElem?_append_left (by rw [mag_length]; exact hj), ← List.getD_eq_getElem?_getD]; exact ih j hj
    · have : j = i := by omega
      subst this
      rw [List.getElem?_append_right (by rw [mag_length]; exact Nat.le_refl _), mag_length, Nat.sub_self]
      rfl
theorem mag_sq {A : List (List Int)} {b : List Int} {n : Nat} (hA : ∀ i, i < n → (A.getD i []).length = n) : Sq n (mag A b n) :=
  ⟨mag_length A b n, fun i hi => by rw [mag_get A b n i hi, List.length_append, hA i hi]; rfl⟩
theorem own_snoc {w0 w : World} (pre : List B) {ids : List Nat} {R : List (List Int)} {g : Nat} {X : List Int} (hl : ids.length = R.length) (h : Own w0 (⟨g, X.flatMap f7, 68⟩ :: (pre ++ mat ids R ++ [])) w) : Own w0 (pre ++ mat (ids ++ [g]) (R ++ [X]) ++ []) w := by
  have e : mat (ids ++ [g]) (R ++ [X]) = mat ids R ++ [⟨g, X.flatMap f7, 68⟩] := by simp [mat, List.zip_append hl]
  rw [e]
  refine h.perm ?_
  simp only [List.append_nil]
  rw [← List.append_assoc]
  exact List.perm_append_singleton _ _
/-- A list of lists that is read. -/
def RdM (w : World) (v : Value) (A : List (List Int)) : Prop := ∃ vs : List Value, vs.length = A.length ∧ Rd w v 1 (fun u => [u]) vs ∧ ∀ i, i < A.length → Rd w (vs.getD i undef) 1 f7 (A.getD i [])
theorem c_clear' (w0 : World) (y z : B) (o n k : Nat) (ids : List Nat) (R : List (List Int)) (hR : Sq n R) (hl : ids.length = R.length) (hk : k < n) (hn : n ≤ 1000) :
    ∀ w, Own w0 ([⟨o, ids.flatMap (fo (n + 1)), 64⟩, y, z] ++ mat ids R ++ []) w → Calls Tryd.prog 50 #[.slice (some ⟨o, 0, none⟩) n n, .int .i64 (k : Int)] w fun e w' =>
      (∃ x : { x : Nat × List Nat // k ≤ x.1 ∧ x.1 < n ∧ en R x.1 k % 7 ≠ 0 ∧ x.2.length = n }, e = .returned (.tuple #[]) ∧ Own w0 ([⟨o, x.1.2.flatMap (fo (n + 1)), 64⟩, y, z] ++ mat x.1.2 (cst n R k x.1.1) ++ []) w') ∨
      (∃ _ : { _y : Unit // ∀ q, k ≤ q → q < n → en R q k % 7 = 0 }, e = .panicked [{ v := .iface 96 (.agg #[]), recovered := false }] ∧ Own w0 ([⟨o, ids.flatMap (fo (n + 1)), 64⟩, y, z] ++ mat ids R ++ []) w') := fun w hw => by
  have pm : ∀ (x : B) (m : List B), ([x] ++ m ++ [y, z]).Perm ([x, y, z] ++ m ++ []) := fun x m => by
    simp only [List.append_nil, List.cons_append, List.nil_append]
    exact List.Perm.cons x (List.perm_append_comm (l₁ := m) (l₂ := [y, z]))
  refine (c_clear w0 [y, z] o n k ids R hR hl hk hn w (hw.perm (pm _ _))).mono ?_
  rintro e w' (⟨x, h1, h2⟩ | ⟨q, h1, h2⟩)
  · exact .inl ⟨x, h1, h2.perm (pm _ _).symm⟩
  · exact .inr ⟨q, h1, h2.perm (pm _ _).symm⟩
/-- How Solve is left: in order, and by the panic of its own. -/
theorem leave_ok {w0 w : World} {L : List B} {fn : Func} {tmps : Array Value} {R : Ending → World → Prop} {xb eb : Nat} {v : Value} (hO : Own w0 L w) (hr : ∀ w, Own w0 L w → (results fn tmps).run Tryd.prog w = .ok v w) (hR : ∀ w, Own w0 L w → R (.returned v) w) :
    Leaves Tryd.prog fn tmps R [{ target := .fn (.func 49) #[.pointer (some ⟨xb, 0, none⟩), .pointer (some ⟨eb, 0, none⟩)], args := #[] }] .returning w := by
  refine leaves_cons (fun h => FrameMode.noConfusion h) (by kernel_rfl) (CallsD.mono (c_rec_ok w0 L xb eb w (by simpa using hO)) ?_)
  rintro e u' w' ⟨rfl, rfl, h⟩
  have h : Own w0 L w' := by simpa using h
  exact ⟨v, hr w' h, hR w' h⟩
theorem leave_panic {w0 w : World} {rest : List B} {fn : Func} {tmps : Array Value} {R : Ending → World → Prop} {o xb eb : Nat} {os : List Value} {ev xv v : Value} (hO : Own w0 ([⟨o, os, 64⟩, ⟨eb, [ev], 55⟩, ⟨xb, [xv], 64⟩] ++ rest) w)
    (hr : ∀ w, Own w0 ([⟨o, os, 64⟩, ⟨eb, [.int .i64 61], 55⟩, ⟨xb, [.slice none 0 0], 64⟩] ++ rest) w → (results fn tmps).run Tryd.prog w = .ok v w) (hR : ∀ w, Own w0 ([⟨o, os, 64⟩, ⟨eb, [.int .i64 61], 55⟩, ⟨xb, [.slice none 0 0], 64⟩] ++ rest) w → R (.returned v) w) :
    Leaves Tryd.prog fn tmps R [{ target := .fn (.func 49) #[.pointer (some ⟨xb, 0, none⟩), .pointer (some ⟨eb, 0, none⟩)], args := #[] }] (.panicking [{ v := .iface 96 (.agg #[]), recovered := false }]) w := by
  refine leaves_cons (fun h => FrameMode.noConfusion h) (by kernel_rfl) (CallsD.mono (c_rec_panic w0 rest o xb eb os ev xv w hO) ?_)
  rintro e u' w' ⟨rfl, rfl, h⟩
  exact ⟨v, hr w' h, hR w' h⟩
/-- The last column. -/
def lastc (n : Nat) (R : List (List Int)) (j : Nat) : List Int := (List.range j).map fun i => en R i n
theorem lastc_succ (n : Nat) (R : List (List Int)) (j : Nat) : lastc n R (j + 1) = lastc n R j ++ [en R j n] := by simp [lastc, List.range_succ]
end Go.Vk
