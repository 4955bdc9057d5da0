/- Plain: the laws over pairs. -/
import Derived.Test.YthmlkndmpkcjdaaPairB
set_option linter.unusedVariables false
set_option linter.unusedSimpArgs false
namespace Go.Vk
open Go
theorem pl_len (l : List Int) : (pl l).length ≤ 40 := by simp [pl]; omega

theorem tmod_emod (a m : Int) (h : 0 < m) : a.tmod m % m = a % m := by
  rw [Int.tmod_eq_emod]
  split
  · simp
  · have : (a % m - m.natAbs) % m = a % m := by
      have e : ((m.natAbs : Nat) : Int) = m := by omega
      rw [e, Int.sub_emod, Int.emod_self, Int.sub_zero, Int.emod_emod_of_dvd _ (Int.dvd_refl m), Int.emod_emod_of_dvd _ (Int.dvd_refl m)]
    first | exact this | (simp at *; omega)
/-- The place of a pair, modulo m: f is Prod.fst with 5 or Prod.snd with 7. -/
structure Hom (f : Int × Int → Int) (m : Int) : Prop where
  add : ∀ p q, f (pa p q) % m = (f p + f q) % m
  sub : ∀ p q, f (ps p q) % m = (f p - f q) % m
  mul : ∀ p q, f (pm p q) % m = (f p * f q) % m
  one : f (1, 1) = 1
  zero : f pz = 0
theorem hom5 : Hom Prod.fst 5 := ⟨fun p q => by simp only [pa]; rw [tmod_emod _ _ (by omega), Int.add_emod, tmod_emod _ _ (by omega), tmod_emod _ _ (by omega), ← Int.add_emod],
  fun p q => by simp only [ps]; rw [tmod_emod _ _ (by omega), Int.sub_emod, tmod_emod _ _ (by omega), tmod_emod _ _ (by omega), ← Int.sub_emod],
  fun p q => by simp only [pm]; rw [tmod_emod _ _ (by omega), Int.mul_emod, tmod_emod _ _ (by omega), tmod_emod _ _ (by omega), ← Int.mul_emod], rfl, rfl⟩
theorem hom7 : Hom Prod.snd 7 := ⟨fun p q => by simp only [pa]; rw [tmod_emod _ _ (by omega), Int.add_emod, tmod_emod _ _ (by omega), tmod_emod _ _ (by omega), ← Int.add_emod],
  fun p q => by simp only [ps]; rw [tmod_emod _ _ (by omega), Int.sub_emod, tmod_emod _ _ (by omega), tmod_emod _ _ (by omega), ← Int.sub_emod],
  fun p q => by simp only [pm]; rw [tmod_emod _ _ (by omega), Int.mul_emod, tmod_emod _ _ (by omega), tmod_emod _ _ (by omega), ← Int.mul_emod], rfl, rfl⟩
theorem pzero_of (p q : Int × Int) (h : ∀ f m, Hom f m → f p % m = f q % m) : pzero (ps p q) = true := by
  have h5 := h _ _ hom5
  have h7 := h _ _ hom7
  have e5 : (ps p q).1 % 5 = 0 := by rw [hom5.sub, Int.sub_emod, h5]; simp
  have e7 : (ps p q).2 % 7 = 0 := by rw [hom7.sub, Int.sub_emod, h7]; simp
  have z : ∀ a m : Int, 0 < m → a % m = 0 → a.tmod m = 0 := fun a m _ h => Int.tmod_eq_zero_of_dvd (Int.dvd_of_emod_eq_zero h)
  unfold pzero
  rw [z _ 5 (by omega) e5, z _ 7 (by omega) e7]
  rfl

/-! The same over the integers. -/
def sumz (n : Nat) (g : Nat → Int) : Int := match n with
  | 0 => 0
  | n + 1 => sumz n g + g n
theorem sumz_congr {n : Nat} {g h : Nat → Int} (e : ∀ i, i < n → g i = h i) : sumz n g = sumz n h := by
  induction n with
  | zero => rfl
  | succ n ih => simp only [sumz]; rw [ih fun i hi => e i (by omega), e n (by omega)]
theorem sumz_mod {n : Nat} {g h : Nat → Int} {m : Int} (e : ∀ i, i < n → g i % m = h i % m) : sumz n g % m = sumz n h % m := by
  induction n with
  | zero => rfl
  | succ n ih => simp only [sumz]; rw [Int.add_emod, ih fun i hi => e i (by omega), e n (by omega), ← Int.add_emod]
theorem sumz_add (n : Nat) (g h : Nat → Int) : sumz n (fun i => g i + h i) = sumz n g + sumz n h := by
  induction n with
  | zero => rfl
  | succ n ih => simp only [sumz, ih]; omega
theorem sumz_mul (n : Nat) (c : Int) (g : Nat → Int) : sumz n (fun i => c * g i) = c * sumz n g := by
  induction n with
  | zero => simp [sumz]
  | succ n ih => simp only [sumz, ih, Int.mul_add]
theorem sumz_zero (n : Nat) : sumz n (fun _ => 0) = 0 := by
  induction n with
  | zero => rfl
  | succ n ih => simp only [sumz, ih]; rfl
theorem sumz_front (n : Nat) (g : Nat → Int) : sumz (n + 1) g = g 0 + sumz n (fun i => g (i + 1)) := by
  induction n with
  | zero => simp [sumz]
  | succ n ih => rw [sumz, ih]; simp only [sumz]; omega
theorem sumz_comm (n m : Nat) (g : Nat → Nat → Int) : sumz n (fun i => sumz m (fun j => g i j)) = sumz m (fun j => sumz n (fun i => g i j)) := by
  induction n with
  | zero => simp only [sumz]; exact (sumz_zero m).symm
  | succ n ih => simp only [sumz]; rw [ih, ← sumz_add]
/-- A sum over the places of a product is a sum over the pairs. -/
theorem sumz_conv (nc nd : Nat) (hc : 0 < nc) (hd : 0 < nd) (a b : Nat → Int) (x : Int) :
    sumz (nc + nd - 1) (fun k => sumz nc (fun i => if i ≤ k ∧ k < i + nd then a i * b (k - i) else 0) * x ^ k) = sumz nc (fun i => a i * x ^ i) * sumz nd (fun j => b j * x ^ j) := by
  have shift : ∀ (N i : Nat) (g : Nat → Int), i + nd ≤ N → sumz N (fun k => if i ≤ k ∧ k < i + nd then g (k - i) else 0) = sumz nd g := by
    intro N i g hN
    have low : ∀ n, n ≤ i → sumz n (fun k => if i ≤ k ∧ k < i + nd then g (k - i) else 0) = 0 := fun n hn => by
      rw [sumz_congr (h := fun _ => 0) (fun k hk => if_neg (by omega))]; exact sumz_zero n
    have mid : ∀ n, n ≤ nd → sumz (i + n) (fun k => if i ≤ k ∧ k < i + nd then g (k - i) else 0) = sumz n g := fun n hn => by
      induction n with
      | zero => rw [Nat.add_zero, low i (Nat.le_refl i)]; rfl
      | succ n ih => rw [← Nat.add_assoc, sumz, ih (by omega), if_pos (by omega), Nat.add_sub_cancel_left]; rfl
    have hi : ∀ n, sumz (i + nd + n) (fun k => if i ≤ k ∧ k < i + nd then g (k - i) else 0) = sumz nd g := fun n => by
      induction n with
      | zero => exact mid nd (Nat.le_refl _)
      | succ n ih => rw [← Nat.add_assoc, sumz, ih, if_neg (by omega), Int.add_zero]
    have e : N = i + nd + (N - (i + nd)) := by omega
    rw [e]; exact hi _
  have e1 : ∀ k, k < nc + nd - 1 → sumz nc (fun i => if i ≤ k ∧ k < i + nd then a i * b (k - i) else 0) * x ^ k = sumz nc (fun i => if i ≤ k ∧ k < i + nd then a i * x ^ i * (b (k - i) * x ^ (k - i)) else 0) := fun k _ => by
    rw [Int.mul_comm, ← sumz_mul]
    refine sumz_congr fun i _ => ?_
    by_cases h : i ≤ k ∧ k < i + nd
    · rw [if_pos h, if_pos h]
      have : x ^ k = x ^ i * x ^ (k - i) := by rw [← Int.pow_add, Nat.add_sub_cancel' h.1]
      rw [this]; grind
    · rw [if_neg h, if_neg h, Int.mul_zero]
  rw [sumz_congr e1, sumz_comm]
  have e2 : ∀ i, i < nc → sumz (nc + nd - 1) (fun k => if i ≤ k ∧ k < i + nd then a i * x ^ i * (b (k - i) * x ^ (k - i)) else 0) = a i * x ^ i * sumz nd (fun j => b j * x ^ j) := fun i hi => by
    rw [shift (nc + nd - 1) i (fun j => a i * x ^ i * (b j * x ^ j)) (by omega), sumz_mul]
  rw [sumz_congr e2]
  rw [sumz_congr (h := fun i => sumz nd (fun j => b j * x ^ j) * (a i * x ^ i)) (fun i _ => Int.mul_comm _ _), sumz_mul, Int.mul_comm]
section
variable {f : Int × Int → Int} {m : Int}
theorem hom_eval (H : Hom f m) (xs : List (Int × Int)) (x : Int × Int) : f (evp xs x) % m = sumz xs.length (fun i => f (xs.getD i pz) * f x ^ i) % m := by
  induction xs with
  | nil => simp [evp, sumz, H.zero]
  | cons c xs ih =>
    have e : evp (c :: xs) x = pa (pm (evp xs x) x) c := rfl
    rw [e, H.add, Int.add_emod, H.mul, Int.mul_emod, ih, ← Int.mul_emod, ← Int.add_emod, List.length_cons, sumz_front]
    congr 1
    simp only [List.getD_cons_zero, List.getD_cons_succ, Int.pow_zero, Int.mul_one]
    rw [Int.add_comm]
    congr 1
    rw [Int.mul_comm, ← sumz_mul]
    refine sumz_congr fun i _ => ?_
    rw [Int.pow_succ]; grind
theorem hom_in (H : Hom f m) (a b : List (Int × Int)) (n : Nat) : f (inp a b n) % m = sumz n (fun i => f (a.getD i pz) * f (b.getD i pz)) % m := by
  induction n with
  | zero => simp [inp, sumz, H.zero]
  | succ n ih => rw [inp, H.add, Int.add_emod, ih, H.mul, ← Int.add_emod]; rfl
theorem hom_pw (H : Hom f m) (x : Int × Int) (k : Nat) : f (pw x k) % m = f x ^ k % m := by
  induction k with
  | zero => simp [pw, H.one]
  | succ k ih => rw [pw, H.mul, Int.mul_emod, ih, ← Int.mul_emod, Int.pow_succ]
/-- Product: what stands at place k when the rounds (i, j) before are done. -/
theorem hom_pin (H : Hom f m) (c d : List (Int × Int)) (i : Nat) (O : List (Int × Int)) (g : Nat → Int) (hg : ∀ k, k < O.length → f (O.getD k pz) % m = g k % m) (j : Nat) (hj : j ≤ d.length) :
    ∀ k, k < O.length → f ((pinp c d i O j).getD k pz) % m = (g k + if i ≤ k ∧ k < i + j then f (c.getD i pz) * f (d.getD (k - i) pz) else 0) % m := by
  induction j with
  | zero => intro k hk; rw [pinp, hg k hk, if_neg (by omega), Int.add_zero]
  | succ j ih =>
    intro k hk
    have ih := ih (by omega)
    rw [pinp]
    by_cases hkk : i + j = k
    · subst hkk
      rw [gset_eq _ _ (by rw [pinp_length]; exact hk), H.add, Int.add_emod, ih _ hk, H.mul, ← Int.add_emod, if_neg (by omega), if_pos (by omega), Nat.add_sub_cancel_left, Int.add_zero]
    · rw [gset_ne _ _ hkk, ih k hk]
      by_cases h2 : i ≤ k ∧ k < i + j
      · rw [if_pos h2, if_pos (by omega)]
      · rw [if_neg h2, if_neg (by omega)]
theorem hom_pout (H : Hom f m) (c d : List (Int × Int)) (i : Nat) (hi : i ≤ c.length) : ∀ k, k < c.length + d.length - 1 → f ((poutp c d i).getD k pz) % m = sumz i (fun i => if i ≤ k ∧ k < i + d.length then f (c.getD i pz) * f (d.getD (k - i) pz) else 0) % m := by
  induction i with
  | zero =>
    intro k hk
    rw [poutp, List.getD_eq_getElem?_getD, List.getElem?_replicate, if_pos hk]
    simp [sumz, H.zero]
  | succ i ih =>
    intro k hk
    rw [poutp, hom_pin H c d i _ _ (fun k hk => ih (by omega) k (by rw [poutp_length] at hk; exact hk)) d.length (Nat.le_refl _) k (by rw [poutp_length]; exact hk)]
    rfl
theorem hom_prod (H : Hom f m) (c d : List (Int × Int)) (x : Int × Int) : f (evp (prp c d) x) % m = (sumz c.length (fun i => f (c.getD i pz) * f x ^ i) * sumz d.length (fun i => f (d.getD i pz) * f x ^ i)) % m := by
  unfold prp
  split
  · rename_i h
    have e0 : f (evp [] x) % m = 0 % m := by rw [show evp [] x = pz from rfl, H.zero]
    rw [e0]
    rcases h with h | h <;> rw [h] <;> simp [sumz]
  · rename_i h
    rw [hom_eval H, poutp_length, ← sumz_conv c.length d.length (by omega) (by omega)]
    refine sumz_mod fun k hk => ?_
    rw [Int.mul_emod, hom_pout H c d c.length (Nat.le_refl _) k hk, ← Int.mul_emod]
theorem hom_pws (x : Int × Int) (n k j : Nat) (hk : k ≤ n) (hj : j < k) : (pws x n k).getD j pz = pw x j := by
  induction k with
  | zero => omega
  | succ k ih =>
    rw [pws]
    by_cases h : k = j
    · subst h; rw [gset_eq _ _ (by rw [pws_length]; omega)]
    · rw [gset_ne _ _ h]; exact ih (by omega) (by omega)
theorem hom_mxs (x : Int × Int) (a : List (Int × Int)) (y : Int × Int) (b : List (Int × Int)) (k j : Nat) (hk : k ≤ a.length) (hj : j < k) : (mxs x a y b k).getD j pz = pa (pm x (a.getD j pz)) (pm y (b.getD j pz)) := by
  induction k with
  | zero => omega
  | succ k ih =>
    rw [mxs]
    by_cases h : k = j
    · subst h; rw [gset_eq _ _ (by rw [mxs_length]; omega)]
    · rw [gset_ne _ _ h]; exact ih (by omega) (by omega)
end
theorem ring1 (c d : List (Int × Int)) (x : Int × Int) : pzero (ps (evp (prp c d) x) (pm (evp c x) (evp d x))) = true := by
  refine pzero_of _ _ fun f m H => ?_
  rw [hom_prod H, H.mul, Int.mul_emod (f (evp c x)), hom_eval H, hom_eval H, ← Int.mul_emod]
theorem ring2 (c : List (Int × Int)) (x : Int × Int) : pzero (ps (inp (pws x c.length c.length) c (pws x c.length c.length).length) (evp c x)) = true := by
  refine pzero_of _ _ fun f m H => ?_
  rw [hom_in H, hom_eval H, pws_length]
  refine sumz_mod fun i hi => ?_
  rw [hom_pws x _ _ _ (Nat.le_refl _) hi, Int.mul_emod, hom_pw H, ← Int.mul_emod, Int.mul_comm]
theorem ring3 (c l : List (Int × Int)) (x : Int × Int) (h : l.length = c.length) : pzero (ps (inp (mxs x c (1, 1) l c.length) c (mxs x c (1, 1) l c.length).length) (pa (pm x (inp c c c.length)) (inp l c l.length))) = true := by
  refine pzero_of _ _ fun f m H => ?_
  rw [hom_in H, H.add, Int.add_emod, H.mul, Int.mul_emod, hom_in H c c, hom_in H l c, ← Int.mul_emod, ← Int.add_emod, mxs_length, h, ← sumz_mul, ← sumz_add]
  refine sumz_mod fun i hi => ?_
  rw [hom_mxs x c _ l _ _ (Nat.le_refl _) hi, Int.mul_emod, H.add, Int.add_emod, H.mul, H.mul, ← Int.add_emod, ← Int.mul_emod, H.one]
  congr 1
  grind
end Go.Vk
