/- AlgebraSystem: the rows that it cuts out of one list. -/
import Derived.Test.YthmlkndmpkcjdaaSysA
import Derived.Test.YthmlkndmpkcjdaaVq
set_option linter.unusedVariables false
set_option linter.unusedSimpArgs false
namespace Go.Vk
open Go Go.RowKit Go.Proofs
/-- The slice q of n elements out of the block g. -/
def slc (g cap n q : Nat) : Value := .slice (some ⟨g, 0 + q * n * 1, none⟩) n (cap - q * n)
def slcs (g cap n i : Nat) : List Value := (List.range i).map (slc g cap n)
theorem slcs_succ (g cap n i : Nat) : slcs g cap n (i + 1) = slcs g cap n i ++ [slc g cap n i] := by simp [slcs, List.range_succ]
theorem slcs_length (g cap n i : Nat) : (slcs g cap n i).length = i := by simp [slcs]
theorem slcs_get {g cap n i q : Nat} (h : q < i) (d : Value) : (slcs g cap n i).getD q d = slc g cap n q := by
  rw [List.getD_eq_getElem?_getD]; simp [slcs, h]
/-- The matrix: row q is n elements from q * n on. -/
def rowsOf (O : List Int) (n : Nat) : List (List Int) := (List.range n).map fun q => (O.drop (q * n)).take n
theorem rowsOf_length (O : List Int) (n : Nat) : (rowsOf O n).length = n := by simp [rowsOf]
theorem rowsOf_get {O : List Int} {n q : Nat} (h : q < n) : (rowsOf O n).getD q [] = (O.drop (q * n)).take n := by
  rw [List.getD_eq_getElem?_getD]; simp [rowsOf, h]
theorem qn {n q : Nat} (h : q < n) : q * n + n ≤ n * n := by rw [← Nat.succ_mul]; exact Nat.mul_le_mul_right _ h
theorem nn3 {n : Nat} (h : n ≤ 3) : n * n ≤ 9 := by
  have : n = 0 ∨ n = 1 ∨ n = 2 ∨ n = 3 := by omega
  rcases this with h | h | h | h <;> subst h <;> decide
theorem row_len {O : List Int} {n q : Nat} (h : q < n) (hO : n * n ≤ O.length) : ((O.drop (q * n)).take n).length = n := by
  have := qn h
  simp; omega
theorem rowsOf_rows {O : List Int} {n : Nat} (hO : n * n ≤ O.length) : ∀ i, i < n → ((rowsOf O n).getD i []).length = n := fun i hi => by rw [rowsOf_get hi]; exact row_len hi hO
theorem row_rd {w0 w : World} {L : List B} {O : List Int} {n q g cap : Nat} {sp : List Value} {ty : TypeId} (hO : Own w0 L w) (i : Nat) (hL : L[i]? = some ⟨g, O.flatMap f7 ++ sp, ty⟩) (h : q < n) (hn : n * n ≤ O.length) : Rd w (slc g cap n q) 1 f7 ((rowsOf O n).getD q []) := by
  have h1 := ((hO.rdB i f7_len O hL).drop (q * n)).take n
  have h2 := h1.o.rd (cap - q * n)
  rw [row_len h hn] at h2
  rw [rowsOf_get h]; exact h2
theorem rows_rdm {w0 w : World} {L ob : List B} {O : List Int} {n g cap : Nat} {v : Value} {sp : List Value} {ty : TypeId} (hO : Own w0 L w) (i : Nat) (hL : L[i]? = some ⟨g, O.flatMap f7 ++ sp, ty⟩) (hn : n * n ≤ O.length)
    (hr : Rw 69 1 v n ((slcs g cap n n).flatMap fun u => [u]) ob) (hs : ob.Sublist L) : RdM w v (rowsOf O n) :=
  ⟨slcs g cap n n, by rw [slcs_length, rowsOf_length], Rw.rd' (fun _ => rfl) (slcs_length _ _ _ _) hr hO hs, fun q hq => by
    rw [rowsOf_length] at hq
    rw [slcs_get hq]; exact row_rd hO i hL hq hn⟩
theorem take_rd {w : World} {ao : Option Addr} {O : List Int} {cap n : Nat} (h : Rd w (.slice ao O.length cap) 1 f7 O) (hn : n ≤ O.length) : Rd w (.slice ao n cap) 1 f7 (O.take n) := by
  obtain ⟨ao', cap', e, hx⟩ := h.o
  injection e with e1 e2 e3
  subst e1; subst e3
  have := (hx.take n).rd cap
  rw [List.length_take, Nat.min_eq_left hn] at this
  exact this
end Go.Vk
namespace Go.Vk
open Go Go.RowKit Go.Proofs
def SolOk (A : List (List Int)) (b : List Int) (n : Nat) : Type := { x : List (List Int) × Value × List B // GJ n (mag A b n) n x.1 ∧ Rw 72 1 x.2.1 n ((lastc n x.1 n).flatMap f7) x.2.2 }
def SolNo (A : List (List Int)) (b : List Int) (n : Nat) : Type := { x : Nat × List (List Int) // GJ n (mag A b n) x.1 x.2 ∧ x.1 < n ∧ ∀ q, x.1 ≤ q → q < n → en x.2 q x.1 % 7 = 0 }
theorem c_solve' (w0 : World) (vr vt : Value) (A : List (List Int)) (b : List Int) (n : Nat) (hn : n ≤ 1000) (hAn : A.length = n) (hA : ∀ i, i < n → (A.getD i []).length = n) (hbn : b.length = n) (hr : RdM w0 vr A) (hb : Rd w0 vt 1 f7 b) :
    Calls Try.prog 41 #[vr, vt] w0 fun e w' => (∃ x : SolOk A b n, e = .returned (.tuple #[x.1.2.1, .int .i64 0]) ∧ Own w0 x.1.2.2 w') ∨ (∃ _x : SolNo A b n, e = .returned (.tuple #[.slice none 0 0, .int .i64 61]) ∧ Own w0 [] w') :=
  c_solve w0 vr vt A b n hn hAn hA hbn hr hb
theorem lastc_length (n : Nat) (R : List (List Int)) (j : Nat) : (lastc n R j).length = j := by simp [lastc]
theorem m4 (n : Int) : (n.tmod 4 + 4).tmod 4 = n % 4 := by
  have h1 : -4 < n.tmod 4 := Int.lt_tmod_of_pos n (by omega)
  rw [Int.tmod_eq_emod_of_nonneg (by omega), Int.tmod_eq_emod]
  split <;> omega
theorem tb4 (n : Int) : -4 < n.tmod 4 ∧ n.tmod 4 < 4 := ⟨Int.lt_tmod_of_pos n (by omega), Int.tmod_lt_of_pos n (by omega)⟩
theorem Rdm.nil {w : World} : RdM w (.slice none 0 0) [] := ⟨[], rfl, Rd.nil, fun i hi => by simp at hi⟩
theorem Rd0 {w : World} {ao : Option Addr} {cap : Nat} : Rd w (.slice ao 0 cap) 1 f7 ([] : List Int) := ⟨ao, cap, rfl, fun k x hk => by simp at hk⟩
end Go.Vk
