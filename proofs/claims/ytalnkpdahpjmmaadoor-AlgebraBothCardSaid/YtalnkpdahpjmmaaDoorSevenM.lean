/- Matrices over Seven: in memory, and what clearColumn does to them. -/
import Derived.Test.YtalnkpdahpjmmaaDoorSevenP
import Derived.Test.YtalnkpdahpjmmaaDoorVp
set_option linter.unusedVariables false
set_option linter.unusedSimpArgs false
namespace Go.Vk
open Go

def fo (m : Nat) (i : Nat) : List Value := [.slice (some ⟨i, 0, none⟩) m m]
theorem fo_len (m i : Nat) : (fo m i).length = 1 := rfl
theorem fo_one (m i : Nat) : ∀ v ∈ fo m i, v.oneCell' = true := by intro v hv; simp [fo] at hv; subst hv; rfl
/-- The rows' blocks. -/
def mat (ids : List Nat) (R : List (List Int)) : List B := (ids.zip R).map fun p => ⟨p.1, p.2.flatMap f7, 68⟩

theorem gdz {α : Type} {xs : List α} {k : Nat} {d : α} (h : k < xs.length) : xs.getD k d = xs[k] := by rw [List.getD_eq_getElem?_getD, List.getElem?_eq_getElem h]; rfl
theorem mat_length {ids : List Nat} {R : List (List Int)} (hl : ids.length = R.length) : (mat ids R).length = R.length := by simp [mat, hl]
theorem mat_get {ids : List Nat} {R : List (List Int)} (hl : ids.length = R.length) {k : Nat} (hk : k < R.length) : (mat ids R)[k]? = some ⟨ids.getD k 0, (R.getD k []).flatMap f7, 68⟩ := by
  rw [List.getElem?_eq_getElem (by rw [mat_length hl]; exact hk)]
  rw [gdz hk, gdz (xs := ids) (show k < ids.length by omega)]
  simp [mat]
theorem mat_at (pre : List B) (rest : List B) {ids : List Nat} {R : List (List Int)} (hl : ids.length = R.length) {k : Nat} (hk : k < R.length) : (pre ++ mat ids R ++ rest)[pre.length + k]? = some ⟨ids.getD k 0, (R.getD k []).flatMap f7, 68⟩ := by
  rw [List.append_assoc, List.getElem?_append_right (by omega), Nat.add_sub_cancel_left, List.getElem?_append_left (by rw [mat_length hl]; exact hk)]
  exact mat_get hl hk
theorem gset_eq {α : Type} {R : List α} {k : Nat} (X d : α) (hk : k < R.length) : (R.set k X).getD k d = X := by
  rw [List.getD_eq_getElem?_getD, List.getElem?_set_self hk]; rfl
theorem gset_ne {α : Type} {R : List α} {i k : Nat} (X d : α) (h : i ≠ k) : (R.set i X).getD k d = R.getD k d := by
  rw [List.getD_eq_getElem?_getD, List.getElem?_set_ne h, List.getD_eq_getElem?_getD]
theorem gset_self {α : Type} (R : List α) (k : Nat) (d : α) : R.set k (R.getD k d) = R := by
  by_cases hk : k < R.length
  · rw [gdz hk]; exact List.set_getElem_self hk
  · exact List.set_eq_of_length_le (by omega)
theorem mat_at_set (pre : List B) (rest : List B) {ids : List Nat} {R : List (List Int)} (X : List Int) (hl : ids.length = R.length) {k : Nat} (hk : k < R.length) : (pre ++ mat ids (R.set k X) ++ rest)[pre.length + k]? = some ⟨ids.getD k 0, X.flatMap f7, 68⟩ := by
  rw [mat_at pre rest (by simpa using hl) (by simpa using hk), gset_eq _ _ hk]
theorem mat_at_ne (pre : List B) (rest : List B) {ids : List Nat} {R : List (List Int)} (X : List Int) (hl : ids.length = R.length) {i k : Nat} (hk : k < R.length) (hn : i ≠ k) : (pre ++ mat ids (R.set i X) ++ rest)[pre.length + k]? = some ⟨ids.getD k 0, (R.getD k []).flatMap f7, 68⟩ := by
  rw [mat_at pre rest (by simpa using hl) (by simpa using hk), gset_ne _ _ hn]
theorem mat_put (pre : List B) (rest : List B) {ids : List Nat} {R : List (List Int)} (X Y : List Int) (hl : ids.length = R.length) {k : Nat} (hk : k < R.length) :
    (pre ++ mat ids (R.set k X) ++ rest).set (pre.length + k) ⟨ids.getD k 0, Y.flatMap f7, 68⟩ = pre ++ mat ids (R.set k Y) ++ rest := by
  apply List.ext_getElem?
  intro j
  have hl1 : ids.length = (R.set k X).length := by simpa using hl
  have hl2 : ids.length = (R.set k Y).length := by simpa using hl
  have hm1 := mat_length hl1
  have hm2 := mat_length hl2
  have e1 : (R.set k X).length = R.length := by simp
  have e2 : (R.set k Y).length = R.length := by simp
  by_cases hj : j = pre.length + k
  · subst hj
    rw [List.getElem?_set_self (by simp only [List.length_append]; omega), mat_at_set pre rest Y hl hk]
  · rw [List.getElem?_set_ne (Ne.symm hj)]
    simp only [List.append_assoc]
    by_cases h1 : j < pre.length
    · rw [List.getElem?_append_left h1, List.getElem?_append_left h1]
    · rw [List.getElem?_append_right (l₁ := pre) (by omega), List.getElem?_append_right (l₁ := pre) (by omega)]
      by_cases h2 : j - pre.length < R.length
      · rw [List.getElem?_append_left (l₁ := mat ids (R.set k X)) (by omega), List.getElem?_append_left (l₁ := mat ids (R.set k Y)) (by omega), mat_get hl1 (by omega), mat_get hl2 (by omega), gset_ne _ _ (by omega), gset_ne _ _ (by omega)]
      · rw [List.getElem?_append_right (l₁ := mat ids (R.set k X)) (by omega), List.getElem?_append_right (l₁ := mat ids (R.set k Y)) (by omega), hm1, hm2, e1, e2]
theorem swap_perm' {α : Type} (l : List α) (i j : Nat) (hi : i < l.length) (hj : j < l.length) : ((l.set i l[j]).set j l[i]).Perm l := by
  have h := Array.swap_perm (xs := l.toArray) (i := i) (j := j) (by simpa using hi) (by simpa using hj)
  have h2 := h.toList
  simpa [Array.swap_def] using h2
/-- Two rows change places. -/
def swp {α : Type} (R : List α) (k p : Nat) (d : α) : List α := (R.set k (R.getD p d)).set p (R.getD k d)
theorem swp_length {α : Type} (R : List α) (k p : Nat) (d : α) : (swp R k p d).length = R.length := by simp [swp]
theorem mat_swap {ids : List Nat} {R : List (List Int)} (hl : ids.length = R.length) {k p : Nat} (hk : k < R.length) (hp : p < R.length) : (mat (swp ids k p 0) (swp R k p [])).Perm (mat ids R) := by
  have hz : (swp ids k p 0).zip (swp R k p []) = ((ids.zip R).set k ((ids.zip R)[p]'(by simp; omega))).set p ((ids.zip R)[k]'(by simp; omega)) := by
    apply List.ext_getElem
    · simp [swp, hl]
    · intro j h1 h2
      simp only [swp, List.getElem_zip, List.getElem_set, gdz hk, gdz hp, gdz (show k < ids.length by omega), gdz (show p < ids.length by omega)]
      split
      · rfl
      · split <;> rfl
  unfold mat
  rw [hz]
  exact (swap_perm' _ _ _ _ _).map _
theorem own_swap {w0 w : World} (pre rest : List B) {ids : List Nat} {R : List (List Int)} (hl : ids.length = R.length) {k p : Nat} (hk : k < R.length) (hp : p < R.length) (h : Own w0 (pre ++ mat ids R ++ rest) w) :
    Own w0 (pre ++ mat (swp ids k p 0) (swp R k p []) ++ rest) w := by
  refine h.perm ?_
  exact List.Perm.append_right _ (List.Perm.append_left _ (mat_swap hl hk hp))

/-- A row is multiplied, its first j places. -/
def sc (r : List Int) (f : Int) : Nat → List Int
  | 0 => r
  | j + 1 => (sc r f j).set j (mu ((sc r f j).getD j 0) f)
theorem sc_length (r : List Int) (f : Int) (j : Nat) : (sc r f j).length = r.length := by
  induction j with
  | zero => rfl
  | succ j ih => simp [sc, ih]
/-- From the row r is taken g times q. -/
def el (r : List Int) (g : Int) (q : List Int) : Nat → List Int
  | 0 => r
  | j + 1 => (el r g q j).set j (su ((el r g q j).getD j 0) (mu g (q.getD j 0)))
theorem el_length (r : List Int) (g : Int) (q : List Int) (j : Nat) : (el r g q j).length = r.length := by
  induction j with
  | zero => rfl
  | succ j ih => simp [el, ih]
def en (R : List (List Int)) (i j : Nat) : Int := (R.getD i []).getD j 0
def scl (n : Nat) (R : List (List Int)) (k : Nat) : List (List Int) := R.set k (sc (R.getD k []) (iv (en R k k)) (n + 1))
def em (n : Nat) (R : List (List Int)) (k : Nat) : Nat → List (List Int)
  | 0 => R
  | i + 1 => if i = k ∨ en (em n R k i) i k % 7 = 0 then em n R k i else (em n R k i).set i (el ((em n R k i).getD i []) (en (em n R k i) i k) ((em n R k i).getD k []) (n + 1))
theorem em_k {n : Nat} {R : List (List Int)} {k i : Nat} (h : i = k) : em n R k (i + 1) = em n R k i := by rw [em, if_pos (.inl h)]
theorem em_z {n : Nat} {R : List (List Int)} {k i : Nat} (h : en (em n R k i) i k % 7 = 0) : em n R k (i + 1) = em n R k i := by rw [em, if_pos (.inr h)]
theorem em_e {n : Nat} {R : List (List Int)} {k i : Nat} (h1 : i ≠ k) (h : en (em n R k i) i k % 7 ≠ 0) : em n R k (i + 1) = (em n R k i).set i (el ((em n R k i).getD i []) (en (em n R k i) i k) ((em n R k i).getD k []) (n + 1)) := by
  rw [em, if_neg (by rintro (h' | h') <;> contradiction)]
/-- What clearColumn makes of R, with the pivot p. -/
def cst (n : Nat) (R : List (List Int)) (k p : Nat) : List (List Int) := em n (scl n (swp R k p []) k) k n
/-- n rows of n + 1 each. -/
def Sq (n : Nat) (R : List (List Int)) : Prop := R.length = n ∧ ∀ i, i < n → (R.getD i []).length = n + 1
theorem Sq.set {n : Nat} {R : List (List Int)} (h : Sq n R) {k : Nat} {X : List Int} (hX : X.length = n + 1) : Sq n (R.set k X) := by
  refine ⟨by simpa using h.1, fun i hi => ?_⟩
  by_cases hk : k = i
  · subst hk; rw [gset_eq _ _ (by rw [h.1]; exact hi)]; exact hX
  · rw [gset_ne _ _ hk]; exact h.2 i hi
theorem Sq.swp {n : Nat} {R : List (List Int)} (h : Sq n R) {k p : Nat} (hk : k < n) (hp : p < n) : Sq n (swp R k p []) := (h.set (h.2 p hp)).set (h.2 k hk)
theorem Sq.scl {n : Nat} {R : List (List Int)} (h : Sq n R) {k : Nat} (hk : k < n) : Sq n (scl n R k) := h.set (by rw [sc_length]; exact h.2 k hk)
theorem Sq.em {n : Nat} {R : List (List Int)} (h : Sq n R) (k i : Nat) (hi : i ≤ n) : Sq n (em n R k i) := by
  induction i with
  | zero => exact h
  | succ i ih =>
    have ih := ih (by omega)
    rw [Vk.em]
    split
    · exact ih
    · exact ih.set (by rw [el_length]; exact ih.2 i (by omega))
theorem Sq.cst {n : Nat} {R : List (List Int)} (h : Sq n R) {k p : Nat} (hk : k < n) (hp : p < n) : Sq n (cst n R k p) := ((h.swp hk hp).scl hk).em k n (Nat.le_refl n)
/-- The steps of Solve. -/
inductive GJ (n : Nat) (A : List (List Int)) : Nat → List (List Int) → Prop
  | zero : GJ n A 0 A
  | step {k p : Nat} {R : List (List Int)} : GJ n A k R → k < n → k ≤ p → p < n → en R p k % 7 ≠ 0 → GJ n A (k + 1) (cst n R k p)
theorem GJ.sq {n : Nat} {A R : List (List Int)} {k : Nat} (hA : Sq n A) (h : GJ n A k R) : Sq n R := by
  induction h with
  | zero => exact hA
  | step _ hk _ hp _ ih => exact ih.cst hk hp
end Go.Vk
