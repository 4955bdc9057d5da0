/- Plain number theory: powers modulo a number, primes by Lucas's test, Fermat's little theorem for them. -/
set_option linter.unusedVariables false
set_option linter.unusedSimpArgs false
namespace Go.Vk.Num

/-- b to the power e, modulo m. -/
def pw (m b : Nat) : Nat → Nat → Nat
  | 0, _ => 1 % m
  | f + 1, e => (pw m b f (e / 2)) * (pw m b f (e / 2)) % m * (bif e % 2 == 1 then b else 1) % m

theorem pow_half (b e : Nat) : b ^ e = b ^ (e / 2) * b ^ (e / 2) * (if e % 2 = 1 then b else 1) := by
  rw [← Nat.pow_add]
  split
  · rw [← Nat.pow_succ]; congr 1; omega
  · rw [Nat.mul_one]; congr 1; omega

theorem pw_eq (m b : Nat) : ∀ (f e : Nat), e < 2 ^ f → pw m b f e = b ^ e % m
  | 0, e, h => by
    have : e = 0 := by simpa using h
    subst this; simp [pw]
  | f + 1, e, h => by
    have h2 : e / 2 < 2 ^ f := by rw [Nat.pow_succ] at h; omega
    rw [pw, pw_eq m b f _ h2]
    have hb : (bif e % 2 == 1 then b else 1) = if e % 2 = 1 then b else 1 := by
      by_cases h : e % 2 = 1
      · simp [h]
      · have h0 : e % 2 = 0 := by omega
        simp [h0]
    rw [hb, ← Nat.mul_mod, Nat.mod_mul_mod, ← pow_half]

/-- A prime. -/
def IsP (n : Nat) : Prop := 2 ≤ n ∧ ∀ d, d ∣ n → d = 1 ∨ d = n

theorem IsP.coprime {p a : Nat} (hp : IsP p) (h : ¬ p ∣ a) : Nat.Coprime p a := by
  rcases hp.2 _ (Nat.gcd_dvd_left p a) with h1 | h1
  · exact h1
  · exact absurd (h1 ▸ Nat.gcd_dvd_right p a) h
theorem IsP.mul {p a b : Nat} (hp : IsP p) (h : p ∣ a * b) : p ∣ a ∨ p ∣ b := by
  by_cases ha : p ∣ a
  · exact .inl ha
  · exact .inr ((hp.coprime ha).dvd_of_dvd_mul_left h)

theorem small_prime (n : Nat) (h2 : 2 ≤ n) (h : ∀ d, d < n → 2 ≤ d → n % d ≠ 0) : IsP n := by
  refine ⟨h2, fun d hd => ?_⟩
  by_cases h1 : d = n
  · exact .inr h1
  by_cases h0 : d = 1
  · exact .inl h0
  have hle := Nat.le_of_dvd (by omega) hd
  have : d ≠ 0 := by rintro rfl; have := Nat.eq_zero_of_zero_dvd hd; omega
  exact absurd (Nat.mod_eq_zero_of_dvd hd) (h d (by omega) (by omega))

/-- Every number from 2 on has a prime divisor. -/
theorem prime_div : ∀ n, 2 ≤ n → ∃ p, IsP p ∧ p ∣ n := by
  intro n
  induction n using Nat.strongRecOn with
  | _ n ih =>
    intro hn
    by_cases h : ∃ d, d ∣ n ∧ d ≠ 1 ∧ d ≠ n
    · obtain ⟨d, hd, h1, h2⟩ := h
      have hle := Nat.le_of_dvd (by omega) hd
      have : d ≠ 0 := by rintro rfl; have := Nat.eq_zero_of_zero_dvd hd; omega
      obtain ⟨p, hp, hpd⟩ := ih d (by omega) (by omega)
      exact ⟨p, hp, Nat.dvd_trans hpd hd⟩
    · refine ⟨n, ⟨hn, fun d hd => ?_⟩, Nat.dvd_refl n⟩
      by_cases h1 : d = 1
      · exact .inl h1
      · by_cases h2 : d = n
        · exact .inr h2
        · exact absurd ⟨d, hd, h1, h2⟩ h

theorem dvd_prod {p : Nat} (hp : IsP p) : ∀ (l : List Nat), (∀ q ∈ l, IsP q) → p ∣ l.foldr (· * ·) 1 → p ∈ l
  | [], _, h => by
    have h1 : p ∣ 1 := by simpa using h
    have := Nat.le_of_dvd (by omega) h1
    have := hp.1; omega
  | q :: l, hq, h => by
    rcases hp.mul (by simpa using h) with h | h
    · rcases (hq q (by simp)).2 p h with h1 | h1
      · have := hp.1; omega
      · rw [h1]; simp
    · exact List.mem_cons_of_mem _ (dvd_prod hp l (fun q hm => hq q (List.mem_cons_of_mem _ hm)) h)

theorem pow_gcd {n g : Nat} : ∀ (a b : Nat), g ^ a % n = 1 % n → g ^ b % n = 1 % n → g ^ (Nat.gcd a b) % n = 1 % n := by
  intro a b
  induction a, b using Nat.gcd.induction with
  | H0 b => intro _ h; simpa using h
  | H1 a b ha ih =>
    intro h1 h2
    rw [Nat.gcd_rec]
    refine ih ?_ h1
    have e : g ^ b = (g ^ a) ^ (b / a) * g ^ (b % a) := by rw [← Nat.pow_mul, ← Nat.pow_add, Nat.div_add_mod]
    rw [e, Nat.mul_mod, Nat.pow_mod, h1] at h2
    rw [← Nat.pow_mod, Nat.one_pow, ← Nat.mul_mod, Nat.one_mul] at h2
    exact h2

/-- The pigeonhole principle. -/
theorem pigeon : ∀ (N : Nat) (l : List Nat), l.Nodup → (∀ x ∈ l, x < N) → l.length ≤ N
  | 0, l, _, h => by
    cases l with
    | nil => simp
    | cons x l => exact absurd (h x (by simp)) (by omega)
  | N + 1, l, hn, h => by
    have h1 := pigeon N (l.erase N) (hn.erase N) (fun x hx => by
      have h2 := h x (List.mem_of_mem_erase hx)
      have h3 : x ≠ N := by
        rintro rfl
        exact (hn.not_mem_erase) hx
      omega)
    have h2 := List.length_erase (a := N) (l := l)
    split at h2 <;> omega

structure Gen (n g : Nat) : Prop where
  two : 2 ≤ n
  one : g ^ (n - 1) % n = 1
  ord : ∀ d, 0 < d → d < n - 1 → g ^ d % n ≠ 1

theorem Gen.of {n g : Nat} (l : List Nat) (h2 : 2 ≤ n) (hl : l.foldr (· * ·) 1 = n - 1) (hq : ∀ q ∈ l, IsP q) (h1 : g ^ (n - 1) % n = 1) (ho : ∀ q ∈ l, g ^ ((n - 1) / q) % n ≠ 1) : Gen n g := by
  refine ⟨h2, h1, fun d h0 hd he => ?_⟩
  have e1 : 1 % n = 1 := Nat.mod_eq_of_lt (by omega)
  have hg := pow_gcd d (n - 1) (by rw [e1]; exact he) (by rw [e1]; exact h1)
  rw [e1] at hg
  have hdvd := Nat.gcd_dvd_right d (n - 1)
  have hle : Nat.gcd d (n - 1) ≤ d := Nat.le_of_dvd h0 (Nat.gcd_dvd_left _ _)
  obtain ⟨c, hc⟩ := hdvd
  generalize Nat.gcd d (n - 1) = e at *
  have hc2 : 2 ≤ c := by
    rcases c with _ | _ | c
    · simp at hc; omega
    · simp at hc; omega
    · omega
  obtain ⟨p, hp, k, hk⟩ := prime_div c hc2
  have hpl := dvd_prod hp l hq (by rw [hl, hc, hk]; exact ⟨e * k, by rw [← Nat.mul_assoc, Nat.mul_comm e p, Nat.mul_assoc]⟩)
  refine ho p hpl ?_
  have : (n - 1) / p = e * k := by
    rw [hc, hk, show e * (p * k) = p * (e * k) by rw [← Nat.mul_assoc, Nat.mul_comm e p, Nat.mul_assoc]]
    exact Nat.mul_div_cancel_left _ (by have := hp.1; omega)
  rw [this, Nat.pow_mul, Nat.pow_mod, hg, Nat.one_pow]; exact e1

theorem Gen.inj {n g : Nat} (h : Gen n g) {i j : Nat} (hij : i < j) (hj : j < n - 1) : g ^ i % n ≠ g ^ j % n := fun he => by
  have e1 : 1 % n = 1 := Nat.mod_eq_of_lt (by have := h.two; omega)
  -- multiply by g^(n-1-i)
  have h1 : g ^ (n - 1 - i) * g ^ i % n = 1 := by rw [← Nat.pow_add, show n - 1 - i + i = n - 1 by omega]; exact h.one
  have h2 : g ^ (n - 1 - i) * g ^ j % n = 1 := by rw [Nat.mul_mod, ← he, ← Nat.mul_mod]; exact h1
  rw [← Nat.pow_add, show n - 1 - i + j = (n - 1) + (j - i) by omega, Nat.pow_add, Nat.mul_mod, h.one, Nat.one_mul, Nat.mod_mod] at h2
  exact h.ord (j - i) (by omega) (by omega) h2

theorem Gen.all {n g : Nat} (h : Gen n g) {a : Nat} (h0 : 0 < a) (ha : a < n) : ∃ k, g ^ k % n = a := by
  refine Classical.byContradiction fun hne => ?_
  have hz : ∀ k, k < n - 1 → g ^ k % n ≠ 0 := fun k hk hz => by
    have h1 : g ^ (n - 1 - k) * g ^ k % n = 1 := by rw [← Nat.pow_add, show n - 1 - k + k = n - 1 by omega]; exact h.one
    rw [Nat.mul_mod, hz] at h1; simp at h1
  have hN := pigeon n (0 :: a :: (List.range (n - 1)).map fun k => g ^ k % n) (by
    simp only [List.nodup_cons, List.mem_cons, List.mem_map, List.mem_range]
    refine ⟨?_, ?_, ?_⟩
    · rintro (hh | ⟨k, hk, hh⟩)
      · omega
      · exact hz k hk hh
    · rintro ⟨k, hk, hh⟩; exact hne ⟨k, hh⟩
    · rw [List.nodup_iff_pairwise_ne, List.pairwise_map]
      refine List.Pairwise.imp_of_mem ?_ List.pairwise_lt_range
      intro i j hi hj hij
      exact h.inj hij (List.mem_range.1 hj)) (by
    intro x hx
    have := h.two
    simp only [List.mem_cons, List.mem_map, List.mem_range] at hx
    rcases hx with rfl | rfl | ⟨k, _, rfl⟩
    · omega
    · omega
    · exact Nat.mod_lt _ (by omega))
  simp at hN
  have := h.two
  omega

theorem Gen.fermat {n g : Nat} (h : Gen n g) {a : Nat} (ha : a % n ≠ 0) : a ^ (n - 1) % n = 1 := by
  have hn := h.two
  obtain ⟨k, hk⟩ := h.all (Nat.pos_of_ne_zero ha) (Nat.mod_lt a (by omega))
  rw [Nat.pow_mod, ← hk, ← Nat.pow_mod, ← Nat.pow_mul, Nat.mul_comm, Nat.pow_mul, Nat.pow_mod, h.one, Nat.one_pow]
  exact Nat.mod_eq_of_lt (by omega)

theorem Gen.prime {n g : Nat} (h : Gen n g) : IsP n := by
  have hn := h.two
  refine ⟨hn, fun d hd => ?_⟩
  by_cases h2 : d = n
  · exact .inr h2
  have hle := Nat.le_of_dvd (by omega) hd
  have hd0 : d ≠ 0 := by rintro rfl; have := Nat.eq_zero_of_zero_dvd hd; omega
  have h1 := h.fermat (a := d) (by rw [Nat.mod_eq_of_lt (by omega)]; exact hd0)
  by_cases hn2 : n = 2
  · left; omega
  have h3 : d ∣ d ^ (n - 1) := by
    obtain ⟨m, hm⟩ : ∃ m, n - 1 = m + 1 := ⟨n - 2, by omega⟩
    rw [hm, Nat.pow_succ]; exact ⟨d ^ m, Nat.mul_comm _ _⟩
  have h4 : d ∣ d ^ (n - 1) % n := (Nat.dvd_mod_iff hd).2 h3
  rw [h1] at h4
  exact .inl (Nat.dvd_one.1 h4)

/-- A certificate that is worked out. -/
def cert (n g : Nat) (l : List Nat) : Bool :=
  Nat.ble 2 n && (l.foldr (· * ·) 1 == n - 1) && (pw n g 256 (n - 1) == 1) && l.all fun q => !(pw n g 256 ((n - 1) / q) == 1)

theorem cert_gen {n g : Nat} {l : List Nat} (hc : cert n g l = true) (hn : n < 2 ^ 256) (hq : ∀ q ∈ l, IsP q) : Gen n g := by
  simp only [cert, Bool.and_eq_true, Nat.ble_eq, beq_iff_eq, List.all_eq_true, Bool.not_eq_true', beq_eq_false_iff_ne] at hc
  obtain ⟨⟨⟨h1, h2⟩, h3⟩, h4⟩ := hc
  refine Gen.of l h1 h2 hq ?_ fun q hm => ?_
  · rw [← pw_eq n g 256 _ (by omega)]; exact h3
  · have := h4 q hm
    rw [pw_eq n g 256 _ (Nat.lt_of_le_of_lt (Nat.div_le_self _ _) (by omega))] at this
    exact this
end Go.Vk.Num
