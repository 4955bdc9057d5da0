/- Plain: polynomials over the integers modulo 7: values, products, division, roots. -/
import Derived.Test.YthmlkndmpkcjdaaFieldP
import Derived.Test.YthmlkndmpkcjdaaSumP
set_option linter.unusedVariables false
set_option linter.unusedSimpArgs false
namespace Go.Vk
open Go
theorem mu_md (a b : Int) : mu a b % 7 = (a * b) % 7 := by rw [mu, ← Int.mul_emod]
theorem su_md (a b : Int) : su a b % 7 = (a - b) % 7 := by rw [su, ← Int.sub_emod]
theorem ad_md (a b : Int) : ad a b % 7 = (a + b) % 7 := by rw [ad, ← Int.add_emod]
theorem cmul {a b : Int} (c : Int) (h : a % 7 = b % 7) : (c * a) % 7 = (c * b) % 7 := by rw [Int.mul_emod, h, ← Int.mul_emod]
theorem cmul' {a b : Int} (c : Int) (h : a % 7 = b % 7) : (a * c) % 7 = (b * c) % 7 := by rw [Int.mul_emod, h, ← Int.mul_emod]
theorem cadd {a b c d : Int} (h : a % 7 = b % 7) (h2 : c % 7 = d % 7) : (a + c) % 7 = (b + d) % 7 := by rw [Int.add_emod, h, h2, ← Int.add_emod]
theorem csub {a b c d : Int} (h : a % 7 = b % 7) (h2 : c % 7 = d % 7) : (a - c) % 7 = (b - d) % 7 := by rw [Int.sub_emod, h, h2, ← Int.sub_emod]
theorem iv_mul (a : Int) (h : a % 7 ≠ 0) : (iv a * a) % 7 = 1 := by
  rw [Int.mul_emod]
  unfold iv
  rcases mod7 a with h' | h' | h' | h' | h' | h' | h' <;> rw [h'] at h ⊢ <;> first | (exact absurd rfl h) | decide
/-- 7 is a prime. -/
theorem prime7 (a b : Int) (h : (a * b) % 7 = 0) (ha : a % 7 ≠ 0) : b % 7 = 0 := by
  have h1 := iv_mul a ha
  have : (iv a * (a * b)) % 7 = 0 := by rw [Int.mul_emod, h]; simp
  rw [← Int.mul_assoc, Int.mul_emod, h1] at this
  simpa using this
/-- The value of a polynomial. -/
def Ez (c : List Int) (y : Int) : Int := sumz c.length (fun i => c.getD i 0 * y ^ i)
theorem ev_Ez (c : List Int) (y : Int) : ev7 c y % 7 = Ez c y % 7 := by
  induction c with
  | nil => rfl
  | cons a c ih =>
    have e : ev7 (a :: c) y = ad (mu (ev7 c y) y) a := rfl
    rw [e, ad_md, Int.add_emod, mu_md, Int.mul_emod, ih, ← Int.mul_emod, ← Int.add_emod]
    unfold Ez
    rw [List.length_cons, sumz_front]
    congr 1
    simp only [List.getD_cons_zero, List.getD_cons_succ, Int.pow_zero, Int.mul_one]
    rw [Int.add_comm]
    congr 1
    rw [Int.mul_comm, ← sumz_mul]
    refine sumz_congr fun i _ => ?_
    rw [Int.pow_succ]; grind
theorem Ez_congr {c d : List Int} (y : Int) (hl : c.length = d.length) (h : ∀ i, i < c.length → c.getD i 0 % 7 = d.getD i 0 % 7) : Ez c y % 7 = Ez d y % 7 := by
  unfold Ez
  rw [← hl]
  exact sumz_mod fun i hi => cmul' _ (h i hi)
/-! Products. -/
theorem pin_md (c d : List Int) (i : Nat) (O : List Int) (g : Nat → Int) (hg : ∀ k, k < O.length → O.getD k 0 % 7 = g k % 7) (j : Nat) (hj : j ≤ d.length) :
    ∀ k, k < O.length → (pin c d i O j).getD k 0 % 7 = (g k + if i ≤ k ∧ k < i + j then c.getD i 0 * d.getD (k - i) 0 else 0) % 7 := by
  induction j with
  | zero => intro k hk; rw [pin, hg k hk, if_neg (by omega), Int.add_zero]
  | succ j ih =>
    intro k hk
    have ih := ih (by omega)
    rw [pin]
    by_cases hkk : i + j = k
    · subst hkk
      rw [gset_eq _ _ (by rw [pin_length]; exact hk), ad_md, Int.add_emod, ih _ hk, mu_md, ← Int.add_emod, if_neg (by omega), if_pos (by omega), Nat.add_sub_cancel_left, Int.add_zero]
    · rw [gset_ne _ _ hkk, ih k hk]
      by_cases h2 : i ≤ k ∧ k < i + j
      · rw [if_pos h2, if_pos (by omega)]
      · rw [if_neg h2, if_neg (by omega)]
theorem pout_md (c d : List Int) (i : Nat) : ∀ k, k < c.length + d.length - 1 → (pout c d i).getD k 0 % 7 = sumz i (fun i => if i ≤ k ∧ k < i + d.length then c.getD i 0 * d.getD (k - i) 0 else 0) % 7 := by
  induction i with
  | zero =>
    intro k hk
    rw [pout, List.getD_eq_getElem?_getD, List.getElem?_replicate, if_pos hk]
    simp [sumz]
  | succ i ih =>
    intro k hk
    rw [pout, pin_md c d i _ _ (fun k hk => ih k (by rw [pout_length] at hk; exact hk)) d.length (Nat.le_refl _) k (by rw [pout_length]; exact hk)]
    rfl
theorem conv7 (nc nd : Nat) (hc : 0 < nc) (hd : 0 < nd) (a b : Nat → Int) (x : Int) :
    sumz (nc + nd - 1) (fun k => sumz nc (fun i => if i ≤ k ∧ k < i + nd then a i * b (k - i) else 0) * x ^ k) = sumz nc (fun i => a i * x ^ i) * sumz nd (fun j => b j * x ^ j) := by
  have shift : ∀ (N i : Nat) (g : Nat → Int), i + nd ≤ N → sumz N (fun k => if i ≤ k ∧ k < i + nd then g (k - i) else 0) = sumz nd g := by
    intro N i g hN
    have low : ∀ n, n ≤ i → sumz n (fun k => if i ≤ k ∧ k < i + nd then g (k - i) else 0) = 0 := fun n hn => by
      rw [sumz_congr (h := fun _ => 0) (fun k hk => if_neg (by omega))]; exact sumz_zero n
    have mid : ∀ n, n ≤ nd → sumz (i + n) (fun k => if i ≤ k ∧ k < i + nd then g (k - i) else 0) = sumz n g := fun n hn => by
      induction n with
      | zero => rw [Nat.add_zero, low i (Nat.le_refl i)]; rfl
      | succ n ih => rw [← Nat.add_assoc, sumz, ih (by omega), if_pos (by omega), Nat.add_sub_cancel_left]; rfl
    have hi : ∀ n, sumz (i + nd + n) (fun k => if i ≤ k ∧ k < i + nd then g (k - i) else 0) = sumz nd g := fun n => by
      induction n with
      | zero => exact mid nd (Nat.le_refl _)
      | succ n ih => rw [← Nat.add_assoc, sumz, ih, if_neg (by omega), Int.add_zero]
    have e : N = i + nd + (N - (i + nd)) := by omega
    rw [e]; exact hi _
  have e1 : ∀ k, k < nc + nd - 1 → sumz nc (fun i => if i ≤ k ∧ k < i + nd then a i * b (k - i) else 0) * x ^ k = sumz nc (fun i => if i ≤ k ∧ k < i + nd then a i * x ^ i * (b (k - i) * x ^ (k - i)) else 0) := fun k _ => by
    rw [Int.mul_comm, ← sumz_mul]
    refine sumz_congr fun i _ => ?_
    by_cases h : i ≤ k ∧ k < i + nd
    · rw [if_pos h, if_pos h]
      have : x ^ k = x ^ i * x ^ (k - i) := by rw [← Int.pow_add, Nat.add_sub_cancel' h.1]
      rw [this]; grind
    · rw [if_neg h, if_neg h, Int.mul_zero]
  rw [sumz_congr e1, sumz_comm]
  have e2 : ∀ i, i < nc → sumz (nc + nd - 1) (fun k => if i ≤ k ∧ k < i + nd then a i * x ^ i * (b (k - i) * x ^ (k - i)) else 0) = a i * x ^ i * sumz nd (fun j => b j * x ^ j) := fun i hi => by
    rw [shift (nc + nd - 1) i (fun j => a i * x ^ i * (b j * x ^ j)) (by omega), sumz_mul]
  rw [sumz_congr e2]
  rw [sumz_congr (h := fun i => sumz nd (fun j => b j * x ^ j) * (a i * x ^ i)) (fun i _ => Int.mul_comm _ _), sumz_mul, Int.mul_comm]
theorem Ez_prod {c d : List Int} (hc : 0 < c.length) (hd : 0 < d.length) (x : Int) : Ez (pr7 c d) x % 7 = (Ez c x * Ez d x) % 7 := by
  unfold Ez
  rw [pr7_length hc hd, ← conv7 c.length d.length hc hd]
  refine sumz_mod fun k hk => cmul' _ ?_
  rw [pr7, if_neg (by omega)]
  exact pout_md c d c.length k hk
theorem Ez_pol (xs : List Int) (i : Nat) (x : Int) : Ez (pol xs (i + 1)) x % 7 = (Ez (pol xs i) x * (x - xs.getD i 0)) % 7 := by
  rw [pol, Ez_prod (by rw [pol_length]; omega) (by simp)]
  refine cmul _ ?_
  have : Ez [su 0 (xs.getD i 0), 1] x = su 0 (xs.getD i 0) + x := by simp [Ez, sumz, Int.pow_succ]
  rw [this]
  have := su_md 0 (xs.getD i 0)
  omega
theorem pol_root (xs : List Int) (n m : Nat) (hm : m < n) : Ez (pol xs n) (xs.getD m 0) % 7 = 0 := by
  induction n with
  | zero => omega
  | succ n ih =>
    rw [Ez_pol]
    by_cases h : m = n
    · subst h; rw [Int.sub_self, Int.mul_zero]; rfl
    · rw [Int.mul_emod, ih (by omega)]; simp
theorem pol_lead (xs : List Int) (n : Nat) : (pol xs n).getD n 0 % 7 = 1 := by
  induction n with
  | zero => rfl
  | succ n ih =>
    rw [pol, pr7, if_neg (by rw [pol_length]; simp), pout_md _ _ _ _ (by rw [pol_length]; simp), pol_length]
    have e : sumz (n + 1) (fun i => if i ≤ n + 1 ∧ n + 1 < i + [su 0 (xs.getD n 0), 1].length then (pol xs n).getD i 0 * [su 0 (xs.getD n 0), 1].getD (n + 1 - i) 0 else 0) = (pol xs n).getD n 0 := by
      rw [sumz, sumz_congr (h := fun _ => 0) (fun i hi => if_neg (by simp; omega)), sumz_zero, if_pos (by simp), Nat.add_sub_cancel_left]
      simp
    rw [e]; exact ih
/-! Division by X - x. -/
theorem wls_get (c : List Int) (x : Int) (n d : Nat) (hd : d ≤ n) (i : Nat) (h1 : n - d ≤ i) (h2 : i < n) : (wls c x n d).getD i 0 = wcr c x n (n - i) := by
  induction d with
  | zero => omega
  | succ d ih =>
    rw [wls]
    by_cases h : n - 1 - d = i
    · subst h
      rw [gset_eq _ _ (by rw [wls_length]; omega)]
      congr 1; omega
    · rw [gset_ne _ _ h]; exact ih (by omega) (by omega)
theorem sumz_tele (n : Nat) (g : Nat → Int) : sumz n (fun i => g (i + 1) - g i) = g n - g 0 := by
  induction n with
  | zero => simp [sumz]
  | succ n ih => rw [sumz, ih]; omega
theorem div_rel {c : List Int} {n : Nat} (x : Int) (i : Nat) (hi : i < n) : wcr c x n (n - i) % 7 = (c.getD (i + 1) 0 + wcr c x n (n - (i + 1)) * x) % 7 := by
  have e : n - i = (n - (i + 1)) + 1 := by omega
  rw [e, wcr, ad_md, Int.add_emod, mu_md, ← Int.add_emod]
  congr 2
  congr 1; omega
theorem Ez_div0 {c : List Int} {n : Nat} (hc : c.length = n + 1) (x y : Int) : ((y - x) * Ez (wo7 c x) y) % 7 = (Ez c y - (c.getD 0 0 + wcr c x n n * x)) % 7 := by
  unfold Ez
  rw [wo7_length x hc, hc, sumz_front, ← sumz_mul]
  have e1 : sumz n (fun i => (y - x) * ((wo7 c x).getD i 0 * y ^ i)) % 7 = sumz n (fun i => c.getD (i + 1) 0 * y ^ (i + 1) + (x * wcr c x n (n - (i + 1)) * y ^ (i + 1) - x * wcr c x n (n - i) * y ^ i)) % 7 := sumz_mod fun i hi => by
    have hw : (wo7 c x).getD i 0 = wcr c x n (n - i) := by
      rw [wo7, hc, Nat.add_sub_cancel]; exact wls_get c x n n (Nat.le_refl _) i (by omega) hi
    rw [hw]
    have h := div_rel (c := c) x i hi
    have h2 : (wcr c x n (n - i) * y ^ (i + 1)) % 7 = ((c.getD (i + 1) 0 + wcr c x n (n - (i + 1)) * x) * y ^ (i + 1)) % 7 := cmul' _ h
    have a1 : (y - x) * (wcr c x n (n - i) * y ^ i) = wcr c x n (n - i) * y ^ (i + 1) - x * wcr c x n (n - i) * y ^ i := by rw [Int.pow_succ]; grind
    rw [a1, Int.sub_emod, h2, ← Int.sub_emod]
    congr 1; grind
  rw [e1, sumz_add, sumz_tele n (fun i => x * wcr c x n (n - i) * y ^ i)]
  have z : wcr c x n (n - n) = 0 := by rw [Nat.sub_self]; rfl
  rw [z]
  congr 1
  simp only [Int.pow_zero, Nat.sub_zero, Int.mul_one]
  grind
theorem Ez_div {c : List Int} {n : Nat} (hc : c.length = n + 1) (x y : Int) : ((y - x) * Ez (wo7 c x) y) % 7 = (Ez c y - Ez c x) % 7 := by
  have h1 := Ez_div0 hc x y
  have h2 := Ez_div0 hc x x
  rw [Int.sub_self, Int.zero_mul] at h2
  omega
theorem div_lead {c : List Int} {n : Nat} (hc : c.length = n + 1 + 1) (x : Int) : (wo7 c x).getD n 0 % 7 = c.getD (n + 1) 0 % 7 := by
  rw [wo7, hc, Nat.add_sub_cancel, wls_get c x (n + 1) (n + 1) (Nat.le_refl _) n (by omega) (by omega), div_rel x n (by omega), Nat.sub_self]
  simp [wcr]
/-- As many roots as coefficients: nothing is left. -/
theorem roots (n : Nat) : ∀ (D : List Int) (X : Nat → Int), D.length = n → (∀ i j, j < i → i < n → X i % 7 ≠ X j % 7) → (∀ m, m < n → Ez D (X m) % 7 = 0) → ∀ j, j < n → D.getD j 0 % 7 = 0 := by
  induction n with
  | zero => intro D X _ _ _ j hj; omega
  | succ n ih =>
    intro D X hl hX hr
    have hq : ∀ i, i < n → (wo7 D (X n)).getD i 0 % 7 = 0 := ih (wo7 D (X n)) X (wo7_length _ hl) (fun i j h1 h2 => hX i j h1 (by omega)) fun m hm => by
      have h := Ez_div hl (X n) (X m)
      have h0 : (Ez D (X m) - Ez D (X n)) % 7 = 0 := by rw [Int.sub_emod, hr m (by omega), hr n (by omega)]; rfl
      rw [h0] at h
      refine prime7 _ _ h ?_
      have := hX n m hm (by omega)
      omega
    have hw : ∀ i, i ≤ n → wcr D (X n) n (n - i) % 7 = 0 := fun i hi => by
      by_cases h : i = n
      · subst h; rw [Nat.sub_self]; rfl
      · have := hq i (by omega)
        rw [wo7, hl, Nat.add_sub_cancel, wls_get D (X n) n n (Nat.le_refl _) i (by omega) (by omega)] at this
        exact this
    intro j hj
    cases j with
    | zero =>
      have h2 := Ez_div0 hl (X n) (X n)
      rw [Int.sub_self, Int.zero_mul] at h2
      have h3 : (wcr D (X n) n n * X n) % 7 = 0 := by have h5 := hw 0 (by omega); rw [Nat.sub_zero] at h5; rw [Int.mul_emod, h5]; simp
      have h4 := hr n (by omega)
      omega
    | succ j =>
      have h := div_rel (c := D) (n := n) (X n) j (by omega)
      rw [hw j (by omega)] at h
      have h3 : (wcr D (X n) n (n - (j + 1)) * X n) % 7 = 0 := by rw [Int.mul_emod, hw (j + 1) (by omega)]; simp
      omega
end Go.Vk
