/- Plain: Gauss and Jordan over the integers modulo 7. -/
import Derived.Test.YthmlkndmpkcjdaaSysQ
import Derived.Test.YthmlkndmpkcjdaaSumP
set_option linter.unusedVariables false
set_option linter.unusedSimpArgs false
namespace Go.Vk
open Go
theorem mu_mod (a b : Int) : mu a b % 7 = (a * b) % 7 := by rw [mu, ← Int.mul_emod]
theorem su_mod (a b : Int) : su a b % 7 = (a - b) % 7 := by rw [su, ← Int.sub_emod]
theorem ad_mod (a b : Int) : ad a b % 7 = (a + b) % 7 := by rw [ad, ← Int.add_emod]
theorem ivmul (a : Int) (h : a % 7 ≠ 0) : (iv a * a) % 7 = 1 := by
  rw [Int.mul_emod]
  unfold iv
  rcases mod7 a with h' | h' | h' | h' | h' | h' | h' <;> rw [h'] at h ⊢ <;> first | (exact absurd rfl h) | decide
theorem sc_get (r : List Int) (f : Int) (m j : Nat) (hm : m ≤ r.length) (hj : j < r.length) : (sc r f m).getD j 0 = if j < m then mu (r.getD j 0) f else r.getD j 0 := by
  induction m with
  | zero => simp [sc]
  | succ m ih =>
    rw [sc]
    by_cases h : m = j
    · subst h
      rw [gset_eq _ _ (by rw [sc_length]; exact hj), ih (by omega), if_neg (by omega), if_pos (by omega)]
    · rw [gset_ne _ _ h, ih (by omega)]
      by_cases h2 : j < m
      · rw [if_pos h2, if_pos (by omega)]
      · rw [if_neg h2, if_neg (by omega)]
theorem el_get (r : List Int) (g : Int) (q : List Int) (m j : Nat) (hm : m ≤ r.length) (hj : j < r.length) : (el r g q m).getD j 0 = if j < m then su (r.getD j 0) (mu g (q.getD j 0)) else r.getD j 0 := by
  induction m with
  | zero => simp [el]
  | succ m ih =>
    rw [el]
    by_cases h : m = j
    · subst h
      rw [gset_eq _ _ (by rw [el_length]; exact hj), ih (by omega), if_neg (by omega), if_pos (by omega)]
    · rw [gset_ne _ _ h, ih (by omega)]
      by_cases h2 : j < m
      · rw [if_pos h2, if_pos (by omega)]
      · rw [if_neg h2, if_neg (by omega)]
theorem em_row {n : Nat} {Q : List (List Int)} (hQ : Sq n Q) (k m : Nat) (hm : m ≤ n) : ∀ i, (em n Q k m).getD i [] = if i < m ∧ ¬ (i = k ∨ en Q i k % 7 = 0) then el (Q.getD i []) (en Q i k) (Q.getD k []) (n + 1) else Q.getD i [] := by
  induction m with
  | zero => intro i; rw [if_neg (by omega)]; rfl
  | succ m ih =>
    intro i
    have ih := ih (by omega)
    have hm' : (em n Q k m).getD m [] = Q.getD m [] := by rw [ih m, if_neg (by omega)]
    have hk' : (em n Q k m).getD k [] = Q.getD k [] := by rw [ih k, if_neg (by intro h; exact h.2 (.inl rfl))]
    have he : en (em n Q k m) m k = en Q m k := by unfold en; rw [hm']
    rw [em, he]
    by_cases hc : m = k ∨ en Q m k % 7 = 0
    · rw [if_pos hc, ih i]
      by_cases hi : i < m ∧ ¬ (i = k ∨ en Q i k % 7 = 0)
      · rw [if_pos hi, if_pos ⟨by omega, hi.2⟩]
      · rw [if_neg hi, if_neg (by
          rintro ⟨h1, h2⟩
          rcases Nat.lt_succ_iff_lt_or_eq.1 h1 with h3 | h3
          · exact hi ⟨h3, h2⟩
          · rw [h3] at h2; exact h2 hc)]
    · rw [if_neg hc]
      by_cases hi : m = i
      · subst hi
        rw [gset_eq _ _ (by rw [(hQ.em k m (by omega)).1]; omega), hm', hk', if_pos ⟨by omega, hc⟩]
      · rw [gset_ne _ _ hi, ih i]
        by_cases h2 : i < m ∧ ¬ (i = k ∨ en Q i k % 7 = 0)
        · rw [if_pos h2, if_pos ⟨by omega, h2.2⟩]
        · rw [if_neg h2, if_neg (by rintro ⟨h3, h4⟩; exact h2 ⟨by omega, h4⟩)]
theorem en_swp {n : Nat} {R : List (List Int)} (hR : Sq n R) {k p : Nat} (hk : k < n) (hp : p < n) (i j : Nat) : en (swp R k p []) i j = en R (tr k p i) j := by
  unfold en swp tr
  have l1 := hR.1
  by_cases h1 : i = p
  · subst h1
    rw [gset_eq _ _ (by simp; omega)]
    by_cases h2 : i = k
    · subst h2; rw [if_pos rfl]
    · rw [if_neg h2, if_pos rfl]
  · rw [gset_ne _ _ (Ne.symm h1)]
    by_cases h2 : i = k
    · subst h2; rw [gset_eq _ _ (by omega), if_pos rfl]
    · rw [gset_ne _ _ (Ne.symm h2), if_neg h2, if_neg h1]
/-- What a step does, modulo 7. -/
structure St (n : Nat) (S T : Nat → Nat → Int) (k : Nat) (f : Int) : Prop where
  piv : ∀ j, j ≤ n → T k j % 7 = (f * S k j) % 7
  oth : ∀ i, i < n → i ≠ k → ∀ j, j ≤ n → T i j % 7 = (S i j - S i k * T k j) % 7
  inv : (f * S k k) % 7 = 1
theorem st_of {n : Nat} {R : List (List Int)} (hR : Sq n R) {k p : Nat} (hk : k < n) (hp : p < n) (hne : en R p k % 7 ≠ 0) :
    St n (fun i j => en R (tr k p i) j) (en (cst n R k p)) k (iv (en R p k)) := by
  have hS := hR.swp hk hp
  have hQ := hS.scl (k := k) hk
  have ekk : en (swp R k p []) k k = en R p k := by rw [en_swp hR hk hp]; unfold tr; rw [if_pos rfl]
  have qk : ∀ j, j ≤ n → en (scl n (swp R k p []) k) k j = mu (en R (tr k p k) j) (iv (en R p k)) := fun j hj => by
    have : (scl n (swp R k p []) k).getD k [] = sc ((swp R k p []).getD k []) (iv (en R p k)) (n + 1) := by
      unfold scl; rw [gset_eq _ _ (by rw [hS.1]; exact hk), ekk]
    unfold en at this ⊢
    rw [this, sc_get _ _ _ _ (by rw [hS.2 k hk]; exact Nat.le_refl _) (by rw [hS.2 k hk]; omega), if_pos (by omega)]
    congr 1
    exact en_swp hR hk hp k j
  have qi : ∀ i, i ≠ k → ∀ j, en (scl n (swp R k p []) k) i j = en R (tr k p i) j := fun i hi j => by
    rw [← en_swp hR hk hp]; unfold en scl; rw [gset_ne _ _ (Ne.symm hi)]
  have tk : ∀ j, en (cst n R k p) k j = en (scl n (swp R k p []) k) k j := fun j => by
    unfold cst en; rw [em_row hQ k n (Nat.le_refl n) k, if_neg (by intro h; exact h.2 (.inl rfl))]
  refine ⟨fun j hj => ?_, fun i hi hik j hj => ?_, ?_⟩
  · rw [tk, qk j hj, mu_mod, Int.mul_comm]
  · have e1 : en (cst n R k p) i j % 7 = (en (scl n (swp R k p []) k) i j - en (scl n (swp R k p []) k) i k * en (scl n (swp R k p []) k) k j) % 7 := by
      unfold cst
      by_cases hz : en (scl n (swp R k p []) k) i k % 7 = 0
      · have : en (em n (scl n (swp R k p []) k) k n) i j = en (scl n (swp R k p []) k) i j := by
          unfold en; rw [em_row hQ k n (Nat.le_refl n) i, if_neg (by rintro ⟨_, h⟩; exact h (.inr hz))]
        rw [this, Int.sub_emod, Int.mul_emod (en (scl n (swp R k p []) k) i k), hz]; simp
      · have : en (em n (scl n (swp R k p []) k) k n) i j = su (en (scl n (swp R k p []) k) i j) (mu (en (scl n (swp R k p []) k) i k) (en (scl n (swp R k p []) k) k j)) := by
          rw [en, em_row hQ k n (Nat.le_refl n) i, if_pos ⟨hi, by rintro (h | h) <;> contradiction⟩, el_get _ _ _ _ _ (by rw [hQ.2 i hi]; exact Nat.le_refl _) (by rw [hQ.2 i hi]; omega), if_pos (by omega)]
          rfl
        rw [this, su_mod, Int.sub_emod, mu_mod, ← Int.sub_emod]
    rw [e1, qi i hik, qi i hik, tk]
  · have : tr k p k = p := by unfold tr; rw [if_pos rfl]
    simp only [this]
    exact ivmul _ hne

/-! The two properties that the steps keep. -/
def LL (n : Nat) (R : Nat → Nat → Int) : Prop := ∃ c : Nat → Int, (∃ i, i < n ∧ c i % 7 ≠ 0) ∧ ∀ j, j < n → sumz n (fun i => c i * R i j) % 7 = 0
def SS (n : Nat) (R : Nat → Nat → Int) (x : Nat → Int) : Prop := ∀ i, i < n → sumz n (fun j => R i j * x j) % 7 = R i n % 7
theorem LL_tr {n k p : Nat} (hk : k < n) (hp : p < n) (R : Nat → Nat → Int) (h : LL n R) : LL n (fun i j => R (tr k p i) j) := by
  obtain ⟨c, ⟨i, hi, hc⟩, h⟩ := h
  have inv : ∀ i, tr k p (tr k p i) = i := fun i => by unfold tr; split <;> split <;> simp_all
  refine ⟨fun i => c (tr k p i), ⟨tr k p i, tr_lt hk hp hi, by dsimp only; rw [inv]; exact hc⟩, fun j hj => ?_⟩
  rw [sumz_tr hk hp (fun i => c i * R i j)]; exact h j hj
theorem LL_tr' {n k p : Nat} (hk : k < n) (hp : p < n) (R : Nat → Nat → Int) (h : LL n (fun i j => R (tr k p i) j)) : LL n R := by
  have := LL_tr hk hp _ h
  have inv : ∀ i, tr k p (tr k p i) = i := fun i => by unfold tr; split <;> split <;> simp_all
  simpa only [inv] using this
theorem SS_tr {n k p : Nat} (hk : k < n) (hp : p < n) (R : Nat → Nat → Int) (x : Nat → Int) (h : SS n (fun i j => R (tr k p i) j) x) : SS n R x := fun i hi => by
  have inv : ∀ i, tr k p (tr k p i) = i := fun i => by unfold tr; split <;> split <;> simp_all
  have := h (tr k p i) (tr_lt hk hp hi)
  simpa only [inv] using this
theorem cong_mul {a b c : Int} (h : a % 7 = b % 7) : (c * a) % 7 = (c * b) % 7 := by rw [Int.mul_emod, h, ← Int.mul_emod]
theorem dvd_of {a b : Int} (h : a % 7 = b % 7) : ∃ t, a = b + 7 * t := ⟨(a - b) / 7, by omega⟩
/-- A row of S by rows of T. -/
theorem St.back {n : Nat} {S T : Nat → Nat → Int} {k : Nat} {f : Int} (h : St n S T k f) (j : Nat) (hj : j ≤ n) : S k j % 7 = (S k k * T k j) % 7 := by
  obtain ⟨t1, e1⟩ := dvd_of (h.piv j hj)
  have e2 := h.inv
  obtain ⟨t2, e3⟩ := dvd_of (show (f * S k k) % 7 = 1 % 7 by rw [e2]; rfl)
  have : S k k * T k j = S k j + 7 * (S k j * t2 + S k k * t1) := by rw [e1, Int.mul_add, ← Int.mul_assoc, Int.mul_comm (S k k) f, e3]; grind
  omega
theorem St.fwd {n : Nat} {S T : Nat → Nat → Int} {k : Nat} {f : Int} (hk : k < n) (h : St n S T k f) (hL : LL n S) : LL n T := by
  obtain ⟨d, ⟨i0, hi0, hd0⟩, hs⟩ := hL
  have key : ∀ j, j < n → sumz n (fun i => (if i = k then sumz n (fun i => d i * S i k) else d i) * T i j) % 7 = sumz n (fun i => d i * S i j) % 7 := fun j hj => by
    rw [sumz_split hk, if_pos rfl, sumz_split hk (fun i => d i * S i j)]
    have e1 : sumz n (fun i => if i = k then 0 else (if i = k then sumz n (fun i => d i * S i k) else d i) * T i j) % 7 = sumz n (fun i => (if i = k then 0 else d i * S i j) - T k j * (if i = k then 0 else d i * S i k)) % 7 := sumz_mod fun i hi => by
      by_cases hik : i = k
      · simp [hik]
      · simp only [if_neg hik]
        rw [cong_mul (h.oth i hi hik j (by omega))]
        congr 1; grind
    rw [sumz_sub, sumz_mul] at e1
    have e2 := sumz_split hk (fun i => d i * S i k)
    obtain ⟨t1, e3⟩ := dvd_of (h.back j (by omega))
    obtain ⟨t2, e4⟩ := dvd_of e1
    rw [e4, e2, e3]
    generalize sumz n (fun i => if i = k then 0 else d i * S i k) = A
    generalize sumz n (fun i => if i = k then 0 else d i * S i j) = Bb
    have : (d k * S k k + A) * T k j + (Bb - T k j * A + 7 * t2) = d k * (S k k * T k j + 7 * t1) + Bb + 7 * (t2 - d k * t1) := by grind
    omega
  by_cases hx : ∃ i, i < n ∧ i ≠ k ∧ d i % 7 ≠ 0
  · obtain ⟨i, hi, hik, hdi⟩ := hx
    exact ⟨fun i => if i = k then sumz n (fun i => d i * S i k) else d i, ⟨i, hi, by dsimp only; rw [if_neg hik]; exact hdi⟩, fun j hj => by rw [key j hj]; exact hs j hj⟩
  · have hz : ∀ i, i < n → i ≠ k → d i % 7 = 0 := fun i hi hik => Decidable.byContradiction fun hne => hx ⟨i, hi, hik, hne⟩
    exfalso
    have hik : i0 = k := Decidable.byContradiction fun hne => hd0 (hz i0 hi0 hne)
    subst hik
    have := hs i0 hk
    rw [sumz_split hk, Int.add_emod, sumz_mod0 (fun i hi => by
      by_cases hik : i = i0
      · simp [hik]
      · rw [if_neg hik, Int.mul_emod, hz i hi hik]; simp)] at this
    have h2 : (d i0 * S i0 i0) % 7 = 0 := by simpa using this
    obtain ⟨t2, e3⟩ := dvd_of (show (f * S i0 i0) % 7 = 1 % 7 by rw [h.inv]; rfl)
    obtain ⟨t3, e4⟩ := dvd_of (show (d i0 * S i0 i0) % 7 = 0 % 7 by rw [h2]; rfl)
    have : d i0 = 7 * (f * t3 - d i0 * t2) := by
      have : d i0 * (f * S i0 i0) = f * (d i0 * S i0 i0) := by grind
      rw [e3, e4] at this; grind
    omega
theorem St.bwd {n : Nat} {S T : Nat → Nat → Int} {k : Nat} {f : Int} (hk : k < n) (h : St n S T k f) (hL : LL n T) : LL n S := by
  obtain ⟨c, ⟨i0, hi0, hc0⟩, hs⟩ := hL
  -- E: what is taken of row k
  have key : ∀ j, j < n → sumz n (fun i => (if i = k then f * (c k - sumz n (fun i => if i = k then 0 else c i * S i k)) else c i) * S i j) % 7 = sumz n (fun i => c i * T i j) % 7 := fun j hj => by
    rw [sumz_split hk, if_pos rfl, sumz_split hk (fun i => c i * T i j)]
    have e1 : sumz n (fun i => if i = k then 0 else c i * T i j) % 7 = sumz n (fun i => (if i = k then 0 else (if i = k then f * (c k - sumz n (fun i => if i = k then 0 else c i * S i k)) else c i) * S i j) - T k j * (if i = k then 0 else c i * S i k)) % 7 := sumz_mod fun i hi => by
      by_cases hik : i = k
      · simp [hik]
      · simp only [if_neg hik]
        rw [cong_mul (h.oth i hi hik j (by omega))]
        congr 1; grind
    rw [sumz_sub, sumz_mul] at e1
    obtain ⟨t1, e3⟩ := dvd_of (h.piv j (by omega))
    obtain ⟨t2, e4⟩ := dvd_of e1
    rw [e4, e3]
    generalize sumz n (fun i => if i = k then 0 else c i * S i k) = A
    generalize sumz n (fun i => if i = k then 0 else (if i = k then f * (c k - A) else c i) * S i j) = Bb
    have : f * (c k - A) * S k j + Bb = c k * (f * S k j + 7 * t1) + (Bb - (f * S k j + 7 * t1) * A + 7 * t2) + 7 * (A * t1 - c k * t1 - t2) := by grind
    omega
  by_cases hx : ∃ i, i < n ∧ i ≠ k ∧ c i % 7 ≠ 0
  · obtain ⟨i, hi, hik, hdi⟩ := hx
    exact ⟨fun i => if i = k then f * (c k - sumz n (fun i => if i = k then 0 else c i * S i k)) else c i, ⟨i, hi, by dsimp only; rw [if_neg hik]; exact hdi⟩, fun j hj => by rw [key j hj]; exact hs j hj⟩
  · have hz : ∀ i, i < n → i ≠ k → c i % 7 = 0 := fun i hi hik => Decidable.byContradiction fun hne => hx ⟨i, hi, hik, hne⟩
    have hik : i0 = k := Decidable.byContradiction fun hne => hc0 (hz i0 hi0 hne)
    subst hik
    refine ⟨fun i => if i = i0 then f * (c i0 - sumz n (fun i => if i = i0 then 0 else c i * S i i0)) else c i, ⟨i0, hi0, ?_⟩, fun j hj => by rw [key j hj]; exact hs j hj⟩
    dsimp only
    rw [if_pos rfl]
    intro h0
    have hA : sumz n (fun i => if i = i0 then 0 else c i * S i i0) % 7 = 0 := sumz_mod0 fun i hi => by
      by_cases hik : i = i0
      · simp [hik]
      · rw [if_neg hik, Int.mul_emod, hz i hi hik]; simp
    obtain ⟨t1, e1⟩ := dvd_of (show _ % 7 = 0 % 7 by rw [hA]; rfl)
    rw [e1] at h0
    obtain ⟨t2, e3⟩ := dvd_of (show (f * S i0 i0) % 7 = 1 % 7 by rw [h.inv]; rfl)
    obtain ⟨t3, e4⟩ := dvd_of (show (f * (c i0 - (0 + 7 * t1))) % 7 = 0 % 7 by rw [h0]; rfl)
    have : c i0 = 7 * (S i0 i0 * (t3 + f * t1) - c i0 * t2) := by
      have : c i0 * (f * S i0 i0) = S i0 i0 * (f * (c i0 - (0 + 7 * t1)) + 7 * (f * t1)) := by grind
      rw [e3, e4] at this; grind
    omega
theorem St.sol {n : Nat} {S T : Nat → Nat → Int} {k : Nat} {f : Int} (hk : k < n) (h : St n S T k f) (x : Nat → Int) (hx : SS n T x) : SS n S x := by
  have hkk : sumz n (fun j => S k j * x j) % 7 = S k n % 7 := by
    have e1 : sumz n (fun j => S k j * x j) % 7 = sumz n (fun j => S k k * (T k j * x j)) % 7 := sumz_mod fun j hj => by
      rw [Int.mul_emod, h.back j (by omega), ← Int.mul_emod, Int.mul_assoc]
    rw [e1, sumz_mul, cong_mul (hx k hk), ← h.back n (Nat.le_refl n)]
  intro i hi
  by_cases hik : i = k
  · subst hik; exact hkk
  · have e1 : sumz n (fun j => S i j * x j) % 7 = sumz n (fun j => T i j * x j + S i k * (T k j * x j)) % 7 := sumz_mod fun j hj => by
      obtain ⟨t, e⟩ := dvd_of (h.oth i hi hik j (by omega))
      rw [e]
      have : (S i j - S i k * T k j + 7 * t) * x j + S i k * (T k j * x j) = S i j * x j + 7 * (t * x j) := by grind
      omega
    rw [e1, sumz_add, sumz_mul, Int.add_emod, hx i hi, cong_mul (hx k hk), ← Int.add_emod]
    obtain ⟨t, e⟩ := dvd_of (h.oth i hi hik n (Nat.le_refl n))
    rw [e]; omega
/-- The first k columns are done. -/
def Dn (n : Nat) (R : Nat → Nat → Int) (k : Nat) : Prop := ∀ j, j < k → ∀ i, i < n → R i j % 7 = if i = j then 1 else 0
theorem Dn.step {n : Nat} {R : List (List Int)} {k p : Nat} (hR : Sq n R) (hk : k < n) (hkp : k ≤ p) (hp : p < n) (hne : en R p k % 7 ≠ 0) (h : Dn n (en R) k) : Dn n (en (cst n R k p)) (k + 1) := by
  have hs := st_of hR hk hp hne
  have dS : ∀ j, j < k → ∀ i, i < n → en R (tr k p i) j % 7 = if i = j then 1 else 0 := fun j hj i hi => by
    rw [h j hj _ (tr_lt hk hp hi)]
    unfold tr
    by_cases h1 : i = k
    · rw [if_pos h1, if_neg (by omega), if_neg (by omega)]
    · rw [if_neg h1]
      by_cases h2 : i = p
      · rw [if_pos h2, if_neg (by omega), if_neg (by omega)]
      · rw [if_neg h2]
  intro j hj i hi
  by_cases hjk : j = k
  · subst hjk
    have hp1 : en (cst n R j p) j j % 7 = 1 := by rw [hs.piv j (by omega)]; exact hs.inv
    by_cases hij : i = j
    · subst hij; rw [if_pos rfl]; exact hp1
    · rw [if_neg hij, hs.oth i hi hij j (by omega)]
      obtain ⟨t, e⟩ := dvd_of (show en (cst n R j p) j j % 7 = 1 % 7 by rw [hp1]; rfl)
      rw [e]
      have : ∀ a : Int, a - a * (1 + 7 * t) = 7 * (-(a * t)) := fun a => by grind
      rw [this]; omega
  · have hjk' : j < k := by omega
    have hz : en (cst n R k p) k j % 7 = 0 := by
      rw [hs.piv j (by omega), Int.mul_emod, dS j hjk' k hk, if_neg (by omega)]; simp
    by_cases hik : i = k
    · subst hik; rw [hz, if_neg (by omega)]
    · rw [hs.oth i hi hik j (by omega)]
      obtain ⟨t, e⟩ := dvd_of (show en (cst n R k p) k j % 7 = 0 % 7 by rw [hz]; rfl)
      rw [e, ← dS j hjk' i hi]
      have : ∀ a b : Int, a - b * (0 + 7 * t) = a + 7 * (-(b * t)) := fun a b => by grind
      rw [this]; omega
theorem GJ.dn {n : Nat} {A : List (List Int)} (hA : Sq n A) {k : Nat} {R : List (List Int)} (h : GJ n A k R) : Dn n (en R) k := by
  induction h with
  | zero => intro j hj; omega
  | step hg hk hkp hp hne ih => exact Dn.step (hg.sq hA) hk hkp hp hne ih
theorem GJ.ll {n : Nat} {A : List (List Int)} (hA : Sq n A) {k : Nat} {R : List (List Int)} (h : GJ n A k R) : LL n (en R) ↔ LL n (en A) := by
  induction h with
  | zero => exact Iff.rfl
  | @step k p R hg hk hkp hp hne ih =>
    have hs := st_of (hg.sq hA) hk hp hne
    exact ⟨fun h => ih.1 (LL_tr' hk hp _ (hs.bwd hk h)), fun h => hs.fwd hk (LL_tr hk hp _ (ih.2 h))⟩
theorem GJ.ss {n : Nat} {A : List (List Int)} (hA : Sq n A) {k : Nat} {R : List (List Int)} (h : GJ n A k R) (x : Nat → Int) : SS n (en R) x → SS n (en A) x := by
  induction h with
  | zero => exact id
  | @step k p R hg hk hkp hp hne ih => exact fun h => ih (SS_tr hk hp _ x ((st_of (hg.sq hA) hk hp hne).sol hk x h))
theorem in7_mod (a b : List Int) (n : Nat) : in7 a b n % 7 = sumz n (fun j => a.getD j 0 * b.getD j 0) % 7 := by
  induction n with
  | zero => rfl
  | succ n ih => rw [in7, ad_mod, Int.add_emod, ih, mu_mod, ← Int.add_emod]; rfl
theorem hv_mod (A : List (List Int)) (j k n : Nat) : hv A j k n % 7 = sumz n (fun i => ((k / 7 ^ i % 7 : Nat) : Int) * en A i j) % 7 := by
  induction n with
  | zero => rfl
  | succ n ih => rw [hv, Int.add_emod, ih, cong_mul (Int.emod_emod_of_dvd _ (Int.dvd_refl 7)), ← Int.add_emod]; rfl
theorem en_mag {A : List (List Int)} {b : List Int} {n : Nat} (hA : ∀ i, i < n → (A.getD i []).length = n) {i j : Nat} (hi : i < n) : en (mag A b n) i j = if j < n then en A i j else if j = n then b.getD i 0 else 0 := by
  unfold en
  rw [mag_get A b n i hi, List.getD_eq_getElem?_getD]
  have hl := hA i hi
  by_cases h : j < n
  · rw [if_pos h, List.getElem?_append_left (by omega), ← List.getD_eq_getElem?_getD]
  · rw [if_neg h, List.getElem?_append_right (by omega), hl]
    by_cases h2 : j = n
    · subst h2; simp
    · rw [if_neg h2, List.getElem?_eq_none (by simp; omega)]; rfl
theorem gj_sol {A : List (List Int)} {b : List Int} {n : Nat} {R : List (List Int)} (hA : ∀ i, i < n → (A.getD i []).length = n) (hG : GJ n (mag A b n) n R) : ∀ i, i < n → in7 (A.getD i []) (lastc n R n) (A.getD i []).length % 7 = b.getD i 0 % 7 := fun i hi => by
  have hx : SS n (en R) (fun j => (lastc n R n).getD j 0) := fun i hi => by
    have hl : ∀ j, j < n → (lastc n R n).getD j 0 = en R j n := fun j hj => by rw [List.getD_eq_getElem?_getD]; simp [lastc, hj]
    have e1 : sumz n (fun j => en R i j * (lastc n R n).getD j 0) % 7 = sumz n (fun j => if j = i then en R j n else 0) % 7 := sumz_mod fun j hj => by
      rw [hl j hj, Int.mul_emod, (hG.dn (mag_sq hA)) j hj i hi]
      by_cases h : j = i
      · subst h; simp
      · rw [if_neg (Ne.symm h), if_neg h]; simp
    rw [e1, sumz_delta hi]
  have h := hG.ss (mag_sq hA) _ hx i hi
  rw [in7_mod, hA i hi]
  rw [en_mag hA hi, if_neg (by omega), if_pos rfl] at h
  rw [← h]
  refine sumz_mod fun j hj => ?_
  rw [en_mag hA hi, if_pos hj]; rfl
theorem ll_mag {A : List (List Int)} {b : List Int} {n : Nat} (hA : ∀ i, i < n → (A.getD i []).length = n) : LL n (en (mag A b n)) ↔ LL n (en A) := by
  have e : ∀ (c : Nat → Int) j, j < n → sumz n (fun i => c i * en (mag A b n) i j) = sumz n (fun i => c i * en A i j) := fun c j hj => sumz_congr fun i hi => by rw [en_mag hA hi, if_pos hj]
  exact ⟨fun ⟨c, h1, h2⟩ => ⟨c, h1, fun j hj => by rw [← e c j hj]; exact h2 j hj⟩, fun ⟨c, h1, h2⟩ => ⟨c, h1, fun j hj => by rw [e c j hj]; exact h2 j hj⟩⟩
theorem digits (n k : Nat) (hk : k < 7 ^ n) (h : ∀ i, i < n → k / 7 ^ i % 7 = 0) : k = 0 := by
  induction n generalizing k with
  | zero => simpa using hk
  | succ n ih =>
    have h0 := h 0 (by omega)
    simp only [Nat.pow_zero, Nat.div_one] at h0
    have := ih (k / 7) (by rw [Nat.pow_succ] at hk; omega) (fun i hi => by rw [Nat.div_div_eq_div_mul, Nat.mul_comm, ← Nat.pow_succ]; exact h (i + 1) (by omega))
    omega
theorem hang_ll {A : List (List Int)} {n : Nat} (h : hangsP A n) : LL n (en A) := by
  obtain ⟨k, h1, h2, h3⟩ := h
  have : ∃ i, i < n ∧ k / 7 ^ i % 7 ≠ 0 := Classical.byContradiction fun hn => by
    have := digits n k h2 (fun i hi => Decidable.byContradiction fun hne => hn ⟨i, hi, hne⟩)
    omega
  obtain ⟨i, hi, hne⟩ := this
  refine ⟨fun i => ((k / 7 ^ i % 7 : Nat) : Int), ⟨i, hi, by dsimp only; have := Nat.mod_lt (k / 7 ^ i) (show 0 < 7 by omega); generalize k / 7 ^ i % 7 = d at *; omega⟩, fun j hj => ?_⟩
  rw [← hv_mod]; exact h3 j hj
theorem gj_nohang {A : List (List Int)} {b : List Int} {n : Nat} {R : List (List Int)} (hA : ∀ i, i < n → (A.getD i []).length = n) (hG : GJ n (mag A b n) n R) : ¬ hangsP A n := fun h => by
  obtain ⟨c, ⟨i, hi, hc⟩, hs⟩ := (hG.ll (mag_sq hA)).2 ((ll_mag hA).2 (hang_ll h))
  have := hs i hi
  have e1 : sumz n (fun q => c q * en R q i) % 7 = sumz n (fun q => if q = i then c q else 0) % 7 := sumz_mod fun q hq => by
    rw [Int.mul_emod, (hG.dn (mag_sq hA)) i hi q hq]
    by_cases h : q = i
    · subst h; simp
    · rw [if_neg h, if_neg h]; simp
  rw [e1, sumz_delta hi] at this
  exact hc this
/-- Combinations by numbers, of up to three rows. -/
theorem ll_hang {A : List (List Int)} {n : Nat} (hn : n ≤ 3) (h : LL n (en A)) : hangsP A n := by
  obtain ⟨c, ⟨i, hi, hc⟩, hs⟩ := h
  have dig : ∀ i, 0 ≤ c i % 7 ∧ c i % 7 < 7 := fun i => by omega
  have m7 : ∀ (d : Nat) (a x : Int), (d : Int) = a % 7 → ((d : Int) * x) % 7 = (a * x) % 7 := fun d a x h => by rw [h, Int.mul_emod, Int.emod_emod_of_dvd _ (Int.dvd_refl 7), ← Int.mul_emod]
  have d0 := dig 0; have d1 := dig 1; have d2 := dig 2
  obtain ⟨a0, e0⟩ := Int.eq_ofNat_of_zero_le d0.1
  obtain ⟨a1, e1⟩ := Int.eq_ofNat_of_zero_le d1.1
  obtain ⟨a2, e2⟩ := Int.eq_ofNat_of_zero_le d2.1
  have fin : ∀ k : Nat, (∀ i, i < n → ((k / 7 ^ i % 7 : Nat) : Int) = c i % 7) → van A n k := fun k hk j hj => by
    rw [hv_mod, ← hs j hj]
    exact sumz_mod fun i hi => m7 _ _ _ (hk i hi)
  have hcases : n = 1 ∨ n = 2 ∨ n = 3 := by omega
  rcases hcases with rfl | rfl | rfl
  · have : i = 0 := by omega
    subst this
    refine ⟨a0, by omega, by omega, fin a0 fun i hi => ?_⟩
    have : i = 0 := by omega
    subst this; simp only [Nat.pow_zero, Nat.div_one]; omega
  · refine ⟨a0 + 7 * a1, ?_, by omega, fin _ fun i hi => ?_⟩
    · have : i = 0 ∨ i = 1 := by omega
      rcases this with rfl | rfl <;> omega
    · have : i = 0 ∨ i = 1 := by omega
      rcases this with rfl | rfl
      · simp only [Nat.pow_zero, Nat.div_one]; omega
      · simp only [Nat.pow_one]; omega
  · refine ⟨a0 + 7 * a1 + 49 * a2, ?_, by omega, fin _ fun i hi => ?_⟩
    · have : i = 0 ∨ i = 1 ∨ i = 2 := by omega
      rcases this with rfl | rfl | rfl <;> omega
    · have : i = 0 ∨ i = 1 ∨ i = 2 := by omega
      rcases this with rfl | rfl | rfl
      · simp only [Nat.pow_zero, Nat.div_one]; omega
      · simp only [Nat.pow_one]; omega
      · rw [show (7 : Nat) ^ 2 = 49 from rfl]; omega
/-- One more row than columns. -/
theorem dep2 (a b : Int) : ∃ c0 c1 : Int, (c0 % 7 ≠ 0 ∨ c1 % 7 ≠ 0) ∧ (c0 * a + c1 * b) % 7 = 0 := by
  by_cases h : a % 7 = 0
  · exact ⟨1, 0, .inl (by decide), by simpa using h⟩
  · exact ⟨b, -a, .inr (by omega), by have : b * a + -a * b = 0 := by grind
                                      rw [this]; rfl⟩
theorem dep3 (a1 b1 a2 b2 a3 b3 : Int) : ∃ c0 c1 c2 : Int, (c0 % 7 ≠ 0 ∨ c1 % 7 ≠ 0 ∨ c2 % 7 ≠ 0) ∧ (c0 * a1 + c1 * a2 + c2 * a3) % 7 = 0 ∧ (c0 * b1 + c1 * b2 + c2 * b3) % 7 = 0 := by
  by_cases hc : (a2 * b3 - a3 * b2) % 7 ≠ 0 ∨ (a3 * b1 - a1 * b3) % 7 ≠ 0 ∨ (a1 * b2 - a2 * b1) % 7 ≠ 0
  · refine ⟨_, _, _, hc, ?_, ?_⟩
    · have : (a2 * b3 - a3 * b2) * a1 + (a3 * b1 - a1 * b3) * a2 + (a1 * b2 - a2 * b1) * a3 = 0 := by grind
      rw [this]; rfl
    · have : (a2 * b3 - a3 * b2) * b1 + (a3 * b1 - a1 * b3) * b2 + (a1 * b2 - a2 * b1) * b3 = 0 := by grind
      rw [this]; rfl
  · have hm : (a1 * b2 - a2 * b1) % 7 = 0 := by omega
    by_cases ha : a1 % 7 ≠ 0 ∨ a2 % 7 ≠ 0
    · refine ⟨a2, -a1, 0, by omega, ?_, ?_⟩
      · have : a2 * a1 + -a1 * a2 + 0 * a3 = 0 := by grind
        rw [this]; rfl
      · have : a2 * b1 + -a1 * b2 + 0 * b3 = -(a1 * b2 - a2 * b1) := by grind
        rw [this]; omega
    · have z1 : a1 % 7 = 0 := by omega
      have z2 : a2 % 7 = 0 := by omega
      by_cases hb : b1 % 7 ≠ 0 ∨ b2 % 7 ≠ 0
      · refine ⟨b2, -b1, 0, by omega, ?_, ?_⟩
        · obtain ⟨t1, e1⟩ := dvd_of (show a1 % 7 = 0 % 7 by rw [z1]; rfl)
          obtain ⟨t2, e2⟩ := dvd_of (show a2 % 7 = 0 % 7 by rw [z2]; rfl)
          have : b2 * a1 + -b1 * a2 + 0 * a3 = 7 * (b2 * t1 - b1 * t2) := by rw [e1, e2]; grind
          rw [this]; omega
        · have : b2 * b1 + -b1 * b2 + 0 * b3 = 0 := by grind
          rw [this]; rfl
      · exact ⟨1, 0, 0, .inl (by decide), by omega, by omega⟩
theorem sing_ll {n k : Nat} {R : Nat → Nat → Int} (hn : n ≤ 3) (hk : k < n) (hd : Dn n R k) (hz : ∀ q, k ≤ q → q < n → R q k % 7 = 0) : LL n R := by
  -- rows from k on vanish in the columns up to k
  have low : ∀ q, k ≤ q → q < n → ∀ j, j ≤ k → R q j % 7 = 0 := fun q h1 h2 j hj => by
    by_cases h : j = k
    · subst h; exact hz q h1 h2
    · rw [hd j (by omega) q h2, if_neg (by omega)]
  have m0 : ∀ c x : Int, x % 7 = 0 → (c * x) % 7 = 0 := fun c x h => by rw [Int.mul_emod, h]; simp
  by_cases hlast : k + 1 = n
  · refine ⟨fun i => if i = k then 1 else 0, ⟨k, hk, by simp⟩, fun j hj => sumz_mod0 fun i hi => ?_⟩
    dsimp only
    by_cases h : i = k
    · rw [if_pos h, h, Int.one_mul]; exact low k (Nat.le_refl _) hk j (by omega)
    · rw [if_neg h, Int.zero_mul]; rfl
  · by_cases h2 : k + 2 = n
    · obtain ⟨c0, c1, hc, he⟩ := dep2 (R k (k + 1)) (R (k + 1) (k + 1))
      refine ⟨fun i => if i = k then c0 else if i = k + 1 then c1 else 0, ?_, fun j hj => ?_⟩
      · rcases hc with hc | hc
        · exact ⟨k, hk, by dsimp only; rw [if_pos rfl]; exact hc⟩
        · exact ⟨k + 1, by omega, by dsimp only; rw [if_neg (by omega), if_pos rfl]; exact hc⟩
      · by_cases hj2 : j ≤ k
        · refine sumz_mod0 fun i hi => ?_
          dsimp only
          by_cases hik : k ≤ i
          · exact m0 _ _ (low i hik hi j hj2)
          · rw [if_neg (by omega), if_neg (by omega), Int.zero_mul]; rfl
        · have hjk : j = k + 1 := by omega
          subst hjk
          rw [sumz_split hk]
          dsimp only
          rw [if_pos rfl, sumz_split (k := k + 1) (by omega), if_neg (by omega), if_neg (by omega), if_pos rfl]
          rw [sumz_congr (h := fun _ => 0) (fun i _ => by
            by_cases q1 : i = k + 1
            · simp [q1]
            · by_cases q2 : i = k
              · simp [q2]
              · simp [q1, q2]), sumz_zero, Int.add_zero]
          exact he
    · have hk0 : k = 0 := by omega
      have hn3 : n = 3 := by omega
      subst hk0; subst hn3
      obtain ⟨c0, c1, c2, hc, e1, e2⟩ := dep3 (R 0 1) (R 0 2) (R 1 1) (R 1 2) (R 2 1) (R 2 2)
      refine ⟨fun i => if i = 0 then c0 else if i = 1 then c1 else c2, ?_, fun j hj => ?_⟩
      · rcases hc with hc | hc | hc
        · exact ⟨0, by omega, by simpa using hc⟩
        · exact ⟨1, by omega, by simpa using hc⟩
        · exact ⟨2, by omega, by simpa using hc⟩
      · by_cases hj0 : j = 0
        · subst hj0; exact sumz_mod0 fun i hi => m0 _ _ (low i (by omega) hi 0 (Nat.le_refl _))
        · have : j = 1 ∨ j = 2 := by omega
          rcases this with rfl | rfl
          · simp [sumz]; exact e1
          · simp [sumz]; exact e2
theorem gj_hang {A : List (List Int)} {b : List Int} {n k : Nat} {R : List (List Int)} (hn : n ≤ 3) (hA : ∀ i, i < n → (A.getD i []).length = n) (hG : GJ n (mag A b n) k R) (hk : k < n) (hz : ∀ q, k ≤ q → q < n → en R q k % 7 = 0) : hangsP A n :=
  ll_hang hn ((ll_mag hA).1 ((hG.ll (mag_sq hA)).1 (sing_ll hn hk (hG.dn (mag_sq hA)) hz)))
theorem hang0 : ¬ hangsP [] 0 := fun ⟨k, h1, h2, _⟩ => by simp at h2; omega
end Go.Vk
