/- Plain: sums of integers. -/
set_option linter.unusedVariables false
set_option linter.unusedSimpArgs false
namespace Go.Vk
def sumz (n : Nat) (g : Nat → Int) : Int := match n with
  | 0 => 0
  | n + 1 => sumz n g + g n
theorem sumz_congr {n : Nat} {g h : Nat → Int} (e : ∀ i, i < n → g i = h i) : sumz n g = sumz n h := by
  induction n with
  | zero => rfl
  | succ n ih => simp only [sumz]; rw [ih fun i hi => e i (by omega), e n (by omega)]
theorem sumz_mod {n : Nat} {g h : Nat → Int} {m : Int} (e : ∀ i, i < n → g i % m = h i % m) : sumz n g % m = sumz n h % m := by
  induction n with
  | zero => rfl
  | succ n ih => simp only [sumz]; rw [Int.add_emod, ih fun i hi => e i (by omega), e n (by omega), ← Int.add_emod]
theorem sumz_add (n : Nat) (g h : Nat → Int) : sumz n (fun i => g i + h i) = sumz n g + sumz n h := by
  induction n with
  | zero => rfl
  | succ n ih => simp only [sumz, ih]; omega
theorem sumz_sub (n : Nat) (g h : Nat → Int) : sumz n (fun i => g i - h i) = sumz n g - sumz n h := by
  induction n with
  | zero => rfl
  | succ n ih => simp only [sumz, ih]; omega
theorem sumz_mul (n : Nat) (c : Int) (g : Nat → Int) : sumz n (fun i => c * g i) = c * sumz n g := by
  induction n with
  | zero => simp [sumz]
  | succ n ih => simp only [sumz, ih, Int.mul_add]
theorem sumz_zero (n : Nat) : sumz n (fun _ => 0) = 0 := by
  induction n with
  | zero => rfl
  | succ n ih => simp only [sumz, ih]; rfl
theorem sumz_front (n : Nat) (g : Nat → Int) : sumz (n + 1) g = g 0 + sumz n (fun i => g (i + 1)) := by
  induction n with
  | zero => simp [sumz]
  | succ n ih => rw [sumz, ih]; simp only [sumz]; omega
theorem sumz_comm (n m : Nat) (g : Nat → Nat → Int) : sumz n (fun i => sumz m (fun j => g i j)) = sumz m (fun j => sumz n (fun i => g i j)) := by
  induction n with
  | zero => simp only [sumz]; exact (sumz_zero m).symm
  | succ n ih => simp only [sumz]; rw [ih, ← sumz_add]
theorem sumz_mod0 {n : Nat} {g : Nat → Int} {m : Int} (e : ∀ i, i < n → g i % m = 0) : sumz n g % m = 0 := by
  rw [sumz_mod (h := fun _ => 0) (fun i hi => by rw [e i hi]; simp), sumz_zero]; simp
/-- The k-th apart. -/
theorem sumz_split {n k : Nat} (hk : k < n) (g : Nat → Int) : sumz n g = g k + sumz n (fun i => if i = k then 0 else g i) := by
  induction n with
  | zero => omega
  | succ n ih =>
    simp only [sumz]
    by_cases h : k = n
    · subst h
      rw [if_pos rfl, sumz_congr (n := k) (g := fun i => if i = k then 0 else g i) (h := g) (fun i hi => if_neg (by omega))]; omega
    · rw [ih (by omega), if_neg (by omega)]; omega
theorem sumz_delta {n k : Nat} (hk : k < n) (g : Nat → Int) : sumz n (fun i => if i = k then g i else 0) = g k := by
  rw [sumz_split hk, if_pos rfl, sumz_congr (h := fun _ => 0) (fun i _ => by by_cases h : i = k <;> simp [h]), sumz_zero]; omega
/-- Two places change. -/
def tr (k p i : Nat) : Nat := if i = k then p else if i = p then k else i
theorem tr_lt {n k p i : Nat} (hk : k < n) (hp : p < n) (hi : i < n) : tr k p i < n := by unfold tr; split; exact hp; split; exact hk; exact hi
theorem sumz_tr {n k p : Nat} (hk : k < n) (hp : p < n) (g : Nat → Int) : sumz n (fun i => g (tr k p i)) = sumz n g := by
  by_cases hkp : k = p
  · subst hkp
    refine sumz_congr fun i _ => ?_
    unfold tr
    by_cases h : i = k
    · rw [if_pos h, h]
    · rw [if_neg h, if_neg h]
  · rw [sumz_split hk, sumz_split hk g, sumz_split hp, sumz_split hp (fun i => if i = k then 0 else g i)]
    have e1 : tr k p k = p := by unfold tr; rw [if_pos rfl]
    have e2 : tr k p p = k := by unfold tr; rw [if_neg (Ne.symm hkp), if_pos rfl]
    have e3 : ∀ i, i ≠ k → i ≠ p → tr k p i = i := fun i h1 h2 => by unfold tr; rw [if_neg h1, if_neg h2]
    rw [e1, if_neg (Ne.symm hkp), if_neg (Ne.symm hkp), e2, sumz_congr (n := n) (g := fun i => if i = p then 0 else if i = k then 0 else g (tr k p i)) (h := fun i => if i = p then 0 else if i = k then 0 else g i) (fun i _ => by
      by_cases h1 : i = p
      · simp [h1]
      · by_cases h2 : i = k
        · simp [h2]
        · simp only [if_neg h1, if_neg h2]; rw [e3 i h2 h1])]
    omega
end Go.Vk
