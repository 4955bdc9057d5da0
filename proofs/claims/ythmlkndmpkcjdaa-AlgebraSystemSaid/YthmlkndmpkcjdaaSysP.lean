/- Plain: hangs over Seven. -/
import Derived.Test.YthmlkndmpkcjdaaSevenG
set_option linter.unusedVariables false
set_option linter.unusedSimpArgs false
namespace Go.Vk
open Go
theorem in7_bd (a b : List Int) (k : Nat) : True := trivial
/-- The sum that hangs makes at column j with the number k, its first i rows. -/
def hv (A : List (List Int)) (j k : Nat) : Nat → Int
  | 0 => 0
  | i + 1 => hv A j k i + ((k / 7 ^ i % 7 : Nat) : Int) * ((A.getD i []).getD j 0 % 7)
theorem mulb2 (m : Nat) (x : Int) (h : m < 7) : 0 ≤ (m : Int) * (x % 7) ∧ (m : Int) * (x % 7) ≤ 36 := by
  have h2 : 0 ≤ x % 7 ∧ x % 7 < 7 := by omega
  have : m = 0 ∨ m = 1 ∨ m = 2 ∨ m = 3 ∨ m = 4 ∨ m = 5 ∨ m = 6 := by omega
  rcases this with h | h | h | h | h | h | h <;> subst h <;> omega
theorem hv_bd (A : List (List Int)) (j k i : Nat) : 0 ≤ hv A j k i ∧ hv A j k i ≤ 36 * (i : Int) := by
  induction i with
  | zero => simp [hv]
  | succ i ih => have := mulb2 (k / 7 ^ i % 7) ((A.getD i []).getD j 0) (Nat.mod_lt _ (by omega)); rw [hv]; omega
/-- The combination k of the rows vanishes. -/
def van (A : List (List Int)) (n k : Nat) : Prop := ∀ j, j < n → hv A j k n % 7 = 0
/-- Some combination, not all of it 0, vanishes. -/
def hangsP (A : List (List Int)) (n : Nat) : Prop := ∃ k, 1 ≤ k ∧ k < 7 ^ n ∧ van A n k
noncomputable def hgb (A : List (List Int)) (n : Nat) : Bool := @decide (hangsP A n) (Classical.propDecidable _)
theorem hgb_t {A : List (List Int)} {n : Nat} (h : hangsP A n) : hgb A n = true := @decide_eq_true _ (Classical.propDecidable _) h
theorem hgb_f {A : List (List Int)} {n : Nat} (h : ¬ hangsP A n) : hgb A n = false := @decide_eq_false _ (Classical.propDecidable _) h
theorem pow7 {i : Nat} (h : i ≤ 3) : 7 ^ i ≤ 343 := by
  have : i = 0 ∨ i = 1 ∨ i = 2 ∨ i = 3 := by omega
  rcases this with h | h | h | h <;> subst h <;> decide
theorem divpow (k i : Nat) : k / 7 ^ i / 7 = k / 7 ^ (i + 1) := by rw [Nat.div_div_eq_div_mul, Nat.pow_succ]
theorem divpow_le (k i : Nat) : k / 7 ^ i ≤ k := Nat.div_le_self _ _
theorem tdivn (a : Nat) : ((a : Nat) : Int).tdiv 7 = ((a / 7 : Nat) : Int) := rfl
theorem tmodn (a : Nat) : ((a : Nat) : Int).tmod 7 = ((a % 7 : Nat) : Int) := rfl
theorem tmod7_nn {x : Int} (h : 0 ≤ x) : x.tmod 7 = x % 7 := Int.tmod_eq_emod_of_nonneg h
end Go.Vk
