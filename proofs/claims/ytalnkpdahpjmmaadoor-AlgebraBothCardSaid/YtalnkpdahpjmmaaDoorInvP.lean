/- Plain: the inverses of many by one inversion, over any multiplication. -/
import Derived.Test.YtalnkpdahpjmmaaDoorNumT
set_option linter.unusedVariables false
set_option linter.unusedSimpArgs false
namespace Go.Vk.Num
section
variable {α : Type} (mul : α → α → α) (inv : α → α) (zr : α → Bool) (one zero : α)
/-- The product of those of the first k that are not zero. -/
def ipr (xs : List α) : Nat → α
  | 0 => one
  | k + 1 => if zr (xs.getD k zero) = true then ipr xs k else mul (ipr xs k) (xs.getD k zero)
def ipl (xs : List α) : Nat → List α
  | 0 => List.replicate xs.length zero
  | k + 1 => (ipl xs k).set k (ipr mul zr one zero xs k)
def ilt (xs : List α) : Nat → α
  | 0 => inv (ipr mul zr one zero xs xs.length)
  | d + 1 => if zr (xs.getD (xs.length - 1 - d) zero) = true then ilt xs d else mul (ilt xs d) (xs.getD (xs.length - 1 - d) zero)
def ill (xs : List α) : Nat → List α
  | 0 => ipl mul zr one zero xs xs.length
  | d + 1 => (ill xs d).set (xs.length - 1 - d) (if zr (xs.getD (xs.length - 1 - d) zero) = true then zero else mul ((ill xs d).getD (xs.length - 1 - d) zero) (ilt mul inv zr one zero xs d))
theorem ipl_length (xs : List α) (k : Nat) : (ipl mul zr one zero xs k).length = xs.length := by
  induction k with
  | zero => simp [ipl]
  | succ k ih => simp [ipl, ih]
theorem ill_length (xs : List α) (k : Nat) : (ill mul inv zr one zero xs k).length = xs.length := by
  induction k with
  | zero => simp [ill, ipl_length]
  | succ k ih => simp [ill, ih]
/-- What holds of the parts holds of all. -/
theorem getD_set_all {p : α → Prop} {l : List α} {i : Nat} {x d : α} (hl : ∀ j, p (l.getD j d)) (hx : p x) : ∀ j, p ((l.set i x).getD j d) := fun j => by
  rw [List.getD_eq_getElem?_getD, List.getElem?_set]
  split
  · split
    · exact hx
    · rename_i h1 h2
      have := hl j
      rw [List.getD_eq_getElem?_getD, List.getElem?_eq_none (by omega)] at this
      exact this
  · rw [← List.getD_eq_getElem?_getD]; exact hl j
theorem ipr_all {p : α → Prop} (h1 : p one) (hm : ∀ a b, p (mul a b)) (xs : List α) (k : Nat) : p (ipr mul zr one zero xs k) := by
  induction k with
  | zero => exact h1
  | succ k ih => unfold ipr; split; exact ih; exact hm _ _
theorem ipl_all {p : α → Prop} (h0 : p zero) (h1 : p one) (hm : ∀ a b, p (mul a b)) (xs : List α) (k : Nat) : ∀ j, p ((ipl mul zr one zero xs k).getD j zero) := by
  induction k with
  | zero =>
    intro j; unfold ipl
    rw [List.getD_eq_getElem?_getD, List.getElem?_replicate]; split <;> exact h0
  | succ k ih => exact getD_set_all ih (ipr_all mul zr one zero h1 hm xs k)
theorem ilt_all {p : α → Prop} (hm : ∀ a b, p (mul a b)) (hi : ∀ a, p (inv a)) (xs : List α) (d : Nat) : p (ilt mul inv zr one zero xs d) := by
  induction d with
  | zero => exact hi _
  | succ d ih => unfold ilt; split; exact ih; exact hm _ _
theorem ill_all {p : α → Prop} (h0 : p zero) (h1 : p one) (hm : ∀ a b, p (mul a b)) (xs : List α) (d : Nat) : ∀ j, p ((ill mul inv zr one zero xs d).getD j zero) := by
  induction d with
  | zero => exact ipl_all mul zr one zero h0 h1 hm xs _
  | succ d ih => exact getD_set_all ih (by split; exact h0; exact hm _ _)
/-- The element i. -/
theorem ipl_get (xs : List α) (k i : Nat) (hi : i < k) (hk : k ≤ xs.length) : (ipl mul zr one zero xs k).getD i zero = ipr mul zr one zero xs i := by
  induction k with
  | zero => omega
  | succ k ih =>
    unfold ipl
    rw [List.getD_eq_getElem?_getD, List.getElem?_set]
    by_cases h : k = i
    · subst h; rw [if_pos rfl, if_pos (by rw [ipl_length]; omega)]; rfl
    · rw [if_neg h, ← List.getD_eq_getElem?_getD]; exact ih (by omega) (by omega)
theorem ill_before (xs : List α) (d i : Nat) (hi : i < xs.length - d) (hd : d ≤ xs.length) : (ill mul inv zr one zero xs d).getD i zero = ipr mul zr one zero xs i := by
  induction d with
  | zero => exact ipl_get mul zr one zero xs _ i (by omega) (Nat.le_refl _)
  | succ d ih =>
    unfold ill
    rw [List.getD_eq_getElem?_getD, List.getElem?_set, if_neg (by omega), ← List.getD_eq_getElem?_getD]
    exact ih (by omega) (by omega)
theorem ill_get (xs : List α) (d i : Nat) (hi : xs.length - d ≤ i) (hl : i < xs.length) (hd : d ≤ xs.length) :
    (ill mul inv zr one zero xs d).getD i zero = if zr (xs.getD i zero) = true then zero else mul (ipr mul zr one zero xs i) (ilt mul inv zr one zero xs (xs.length - 1 - i)) := by
  induction d with
  | zero => omega
  | succ d ih =>
    unfold ill
    rw [List.getD_eq_getElem?_getD, List.getElem?_set]
    by_cases h : xs.length - 1 - d = i
    · rw [if_pos h, if_pos (by rw [ill_length]; omega)]
      have hd' : d = xs.length - 1 - i := by omega
      rw [ill_before mul inv zr one zero xs d _ (by omega) (by omega)]
      subst hd'
      simp only [h, Option.getD_some]
    · rw [if_neg h, ← List.getD_eq_getElem?_getD]; exact ih (by omega) (by omega)
end
/-- Over the numbers modulo a prime: the product up to i times what is left is 1. -/
theorem inv_mul {m : Nat} (hm : IsP m) (hf : ∀ a, a % m ≠ 0 → a ^ (m - 1) % m = 1) (mul : Nat → Nat → Nat) (inv : Nat → Nat) (hmul : ∀ a b, mul a b = a * b % m) (hinv : ∀ a, inv a = a ^ (m - 2) % m) (zr : Nat → Bool) (hz : ∀ a, zr a = true ↔ a % m = 0) (xs : List Nat) :
    ∀ k, k ≤ xs.length → ipr mul zr 1 0 xs k % m ≠ 0 ∧ ipr mul zr 1 0 xs k * ilt mul inv zr 1 0 xs (xs.length - k) % m = 1 := by
  have h2 := hm.1
  have e1 : 1 % m = 1 := Nat.mod_eq_of_lt (by omega)
  have nz : ∀ k, ipr mul zr 1 0 xs k % m ≠ 0 := by
    intro k
    induction k with
    | zero => unfold ipr; rw [e1]; decide
    | succ k ih =>
      unfold ipr
      split
      · exact ih
      · rename_i hk
        rw [hmul, Nat.mod_mod]
        intro h
        rcases hm.mul (Nat.dvd_of_mod_eq_zero h) with h | h
        · exact ih (Nat.mod_eq_zero_of_dvd h)
        · exact hk ((hz _).2 (Nat.mod_eq_zero_of_dvd h))
  intro k hk
  refine ⟨nz k, ?_⟩
  obtain ⟨d, hd⟩ : ∃ d, d = xs.length - k := ⟨_, rfl⟩
  rw [← hd]
  induction d generalizing k with
  | zero =>
    have : k = xs.length := by omega
    subst this
    unfold ilt
    rw [hinv, Nat.mul_mod, Nat.mod_mod, ← Nat.mul_mod, ← Nat.pow_succ', show (m - 2).succ = m - 1 by omega]
    exact hf _ (nz _)
  | succ d ih =>
    have hi := ih (k + 1) (by omega) (by omega)
    unfold ilt
    have ek : xs.length - 1 - d = k := by omega
    rw [ek]
    unfold ipr at hi
    split
    · rename_i h; rw [if_pos h] at hi; exact hi
    · rename_i h; rw [if_neg h] at hi
      rw [hmul] at hi ⊢
      rw [Nat.mod_mul_mod] at hi
      rw [Nat.mul_mod_mod, ← Nat.mul_assoc, Nat.mul_right_comm]
      exact hi
/-- Each one's inverse. -/
theorem inv_all {m : Nat} (hm : IsP m) (hf : ∀ a, a % m ≠ 0 → a ^ (m - 1) % m = 1) (mul : Nat → Nat → Nat) (inv : Nat → Nat) (hmul : ∀ a b, mul a b = a * b % m) (hinv : ∀ a, inv a = a ^ (m - 2) % m) (zr : Nat → Bool) (hz : ∀ a, zr a = true ↔ a % m = 0) (h3 : 3 ≤ m) (xs : List Nat) (i : Nat) (hi : i < xs.length) :
    (ill mul inv zr 1 0 xs xs.length).getD i 0 % m = xs.getD i 0 ^ (m - 2) % m ∧ (xs.getD i 0 % m ≠ 0 → (ill mul inv zr 1 0 xs xs.length).getD i 0 * xs.getD i 0 % m = 1) := by
  rw [ill_get mul inv zr 1 0 xs _ i (by omega) hi (Nat.le_refl _)]
  split
  · rename_i h
    have h := (hz _).1 h
    refine ⟨?_, fun hn => absurd h hn⟩
    rw [Nat.pow_mod, h, Nat.zero_pow (by omega)]
  · rename_i h
    have hx : xs.getD i 0 % m ≠ 0 := fun hh => h ((hz _).2 hh)
    have h1 := (inv_mul hm hf mul inv hmul hinv zr hz xs (i + 1) (by omega)).2
    rw [show xs.length - (i + 1) = xs.length - 1 - i by omega] at h1
    unfold ipr at h1
    rw [if_neg h, hmul, Nat.mod_mul_mod] at h1
    have h2 : mul (ipr mul zr 1 0 xs i) (ilt mul inv zr 1 0 xs (xs.length - 1 - i)) * xs.getD i 0 % m = 1 := by
      rw [hmul, Nat.mod_mul_mod, Nat.mul_right_comm]; exact h1
    refine ⟨?_, fun _ => h2⟩
    -- y = y (x x^(m-2)) = x^(m-2)
    generalize mul (ipr mul zr 1 0 xs i) (ilt mul inv zr 1 0 xs (xs.length - 1 - i)) = y at h2 ⊢
    generalize xs.getD i 0 = x at *
    have hF := hf x hx
    have e2 : y * (x ^ (m - 1)) % m = y % m := by rw [Nat.mul_mod, hF, Nat.mul_one, Nat.mod_mod]
    rw [← e2, show x ^ (m - 1) = x * x ^ (m - 2) by rw [← Nat.pow_succ']; congr 1; omega, ← Nat.mul_assoc, Nat.mul_mod, h2, Nat.one_mul, Nat.mod_mod]
end Go.Vk.Num
namespace Go.Vk.Num
section
variable {α β : Type} (φ : α → β) (mul : α → α → α) (inv : α → α) (zr : α → Bool) (one zero : α) (mul' : β → β → β) (inv' : β → β) (zr' : β → Bool) (one' zero' : β)
  (hm : ∀ a b, φ (mul a b) = mul' (φ a) (φ b)) (hi : ∀ a, φ (inv a) = inv' (φ a)) (hz : ∀ a, zr' (φ a) = zr a) (h1 : φ one = one') (h0 : φ zero = zero')
include h0 in
theorem getD_map' (l : List α) (i : Nat) : (l.map φ).getD i zero' = φ (l.getD i zero) := by
  rw [List.getD_eq_getElem?_getD, List.getD_eq_getElem?_getD, List.getElem?_map]
  cases l[i]? with
  | none => simp [h0]
  | some x => rfl
include hm hz h1 h0 in
theorem ipr_map (xs : List α) (k : Nat) : φ (ipr mul zr one zero xs k) = ipr mul' zr' one' zero' (xs.map φ) k := by
  induction k with
  | zero => exact h1
  | succ k ih =>
    unfold ipr
    rw [getD_map' φ zero zero' h0, hz]
    split
    · exact ih
    · rw [hm, ih]
include hm hi hz h1 h0 in
theorem ilt_map (xs : List α) (d : Nat) : φ (ilt mul inv zr one zero xs d) = ilt mul' inv' zr' one' zero' (xs.map φ) d := by
  induction d with
  | zero => unfold ilt; rw [hi, ipr_map φ mul zr one zero mul' zr' one' zero' hm hz h1 h0, List.length_map]
  | succ d ih =>
    unfold ilt
    rw [getD_map' φ zero zero' h0, hz, List.length_map]
    split
    · exact ih
    · rw [hm, ih]
include hm hi hz h1 h0 in
theorem ill_map (xs : List α) (i : Nat) (hl : i < xs.length) : φ ((ill mul inv zr one zero xs xs.length).getD i zero) = (ill mul' inv' zr' one' zero' (xs.map φ) xs.length).getD i zero' := by
  rw [ill_get mul inv zr one zero xs _ i (by omega) hl (Nat.le_refl _), ill_get mul' inv' zr' one' zero' (xs.map φ) _ i (by simp) (by simpa using hl) (by simp)]
  rw [getD_map' φ zero zero' h0, hz, List.length_map]
  split
  · exact h0
  · rw [hm, ipr_map φ mul zr one zero mul' zr' one' zero' hm hz h1 h0, ilt_map φ mul inv zr one zero mul' inv' zr' one' zero' hm hi hz h1 h0]
end
end Go.Vk.Num
