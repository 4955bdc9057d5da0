/- Plain: polynomials over the integers modulo 7. -/
import Derived.Test.YthmlkndmpkcjdaaFieldB
import Derived.Test.YthmlkndmpkcjdaaPolyL
set_option linter.unusedVariables false
set_option linter.unusedSimpArgs false
namespace Go.Vk
open Go Go.RowKit Go.Proofs
theorem c_sevens' (w0 : World) (v : Value) (l X : List Int) (hX : X = l.take 40) (hv : Rd w0 v 1 f7 l) : Gives Try.prog 40 #[v] w0 72 1 X.length (X.flatMap f7) (fun v => v) := by
  subst hX
  have h := c_sevens w0 v l hv
  rw [List.length_take, Nat.min_comm]; exact h
theorem take_rd {w : World} {ao : Option Addr} {O : List Int} {cap n : Nat} (h : Rd w (.slice ao O.length cap) 1 f7 O) (hn : n ≤ O.length) : Rd w (.slice ao n cap) 1 f7 (O.take n) := by
  obtain ⟨ao', cap', e, hx⟩ := h.o
  injection e with e1 e2 e3
  subst e1; subst e3
  have := (hx.take n).rd cap
  rw [List.length_take, Nat.min_eq_left hn] at this
  exact this
/-- Two of the places looked at are alike. -/
def tw (X : List Int) (i j : Nat) : Prop := ∃ q r, ((q < i ∧ r < q) ∨ (q = i ∧ r < j)) ∧ X.getD q 0 % 7 = X.getD r 0 % 7
theorem tw0 (X : List Int) : false = true ↔ tw X 0 0 := ⟨fun h => (by cases h), fun ⟨q, r, h, _⟩ => by omega⟩
theorem twt {X : List Int} {i j : Nat} (h : true = true ↔ tw X i j) : true = true ↔ tw X i (j + 1) := by
  obtain ⟨q, r, h1, h2⟩ := h.1 rfl
  exact ⟨fun _ => ⟨q, r, by omega, h2⟩, fun _ => rfl⟩
theorem twf {X : List Int} {i j : Nat} (h : false = true ↔ tw X i j) : (X.getD i 0 % 7 == X.getD j 0 % 7) = true ↔ tw X i (j + 1) := by
  rw [beq_iff_eq]
  refine ⟨fun e => ⟨i, j, by omega, e⟩, fun ⟨q, r, h1, h2⟩ => ?_⟩
  by_cases hq : q = i ∧ r = j
  · rw [← hq.1, ← hq.2]; exact h2
  · exact absurd (h.2 ⟨q, r, by omega, h2⟩) (by decide)
theorem tws {X : List Int} {i : Nat} {z : Bool} (h : z = true ↔ tw X i i) : z = true ↔ tw X (i + 1) 0 := by
  rw [h]
  constructor
  · rintro ⟨q, r, h1, h2⟩; exact ⟨q, r, by omega, h2⟩
  · rintro ⟨q, r, h1, h2⟩
    refine ⟨q, r, ?_, h2⟩
    omega
theorem su_zero (a b : Int) : su a b % 7 = 0 ↔ a % 7 = b % 7 := by unfold su; omega
theorem dup_tw (X : List Int) : dup X ↔ tw X X.length 0 := by
  constructor
  · rintro ⟨i, j, h1, h2, h3⟩; exact ⟨i, j, by omega, (su_zero _ _).1 h3⟩
  · rintro ⟨q, r, h1, h2⟩; exact ⟨q, r, by omega, by omega, (su_zero _ _).2 h2⟩
/-- The values of a polynomial at the first places. -/
def evs (X Y : List Int) (i : Nat) : List Int := (List.range i).map fun q => ev7 Y (X.getD q 0)
theorem evs_succ (X Y : List Int) (i : Nat) : evs X Y (i + 1) = evs X Y i ++ [ev7 Y (X.getD i 0)] := by simp [evs, List.range_succ]
theorem evs_length (X Y : List Int) (i : Nat) : (evs X Y i).length = i := by simp [evs]
/-! InvertAll, of what is nowhere 0. -/
theorem ipre_nz {xs : List Int} (hx : ∀ i, i < xs.length → xs.getD i 0 % 7 ≠ 0) (k : Nat) (hk : k ≤ xs.length) : ipre xs k % 7 ≠ 0 := by
  induction k with
  | zero => simp [ipre]
  | succ k ih =>
    rw [ipre, if_neg (hx k (by omega)), mu_md]
    intro h
    exact hx k (by omega) (prime7 _ _ h (ih (by omega)))
theorem ipre_succ {xs : List Int} (hx : ∀ i, i < xs.length → xs.getD i 0 % 7 ≠ 0) (k : Nat) (hk : k < xs.length) : ipre xs (k + 1) % 7 = (ipre xs k * xs.getD k 0) % 7 := by
  rw [ipre, if_neg (hx k hk), mu_md]
theorem io1_get (xs : List Int) (k i : Nat) (hk : k ≤ xs.length) (hi : i < k) : (io1 xs k).getD i 0 = ipre xs i := by
  induction k with
  | zero => omega
  | succ k ih =>
    rw [io1]
    by_cases h : k = i
    · subst h; rw [gset_eq _ _ (by rw [io1_length]; omega)]
    · rw [gset_ne _ _ h]; exact ih (by omega) (by omega)
theorem ilf_inv {xs : List Int} (hx : ∀ i, i < xs.length → xs.getD i 0 % 7 ≠ 0) (d : Nat) (hd : d ≤ xs.length) : (ilf xs d * ipre xs (xs.length - d)) % 7 = 1 := by
  induction d with
  | zero => rw [ilf, Nat.sub_zero]; exact iv_mul _ (ipre_nz hx _ (Nat.le_refl _))
  | succ d ih =>
    rw [ilf, if_neg (hx _ (by omega)), Int.mul_emod, mu_md, ← Int.mul_emod]
    have ih := ih (by omega)
    have e : xs.length - d = (xs.length - 1 - d) + 1 := by omega
    rw [e, Int.mul_emod, ipre_succ hx _ (by omega), ← Int.mul_emod] at ih
    have e2 : xs.length - (d + 1) = xs.length - 1 - d := by omega
    rw [e2, ← ih]
    congr 1; grind
theorem io2_get {xs : List Int} (hx : ∀ i, i < xs.length → xs.getD i 0 % 7 ≠ 0) (d : Nat) (hd : d ≤ xs.length) (i : Nat) (hi : i < xs.length) :
    (i < xs.length - d → (io2 xs d).getD i 0 = ipre xs i) ∧ (xs.length - d ≤ i → ((io2 xs d).getD i 0 * xs.getD i 0) % 7 = 1) := by
  induction d with
  | zero => exact ⟨fun _ => by rw [io2]; exact io1_get xs _ i (Nat.le_refl _) hi, fun h => by omega⟩
  | succ d ih =>
    have ih := ih (by omega)
    rw [io2, if_neg (hx _ (by omega))]
    by_cases h : xs.length - 1 - d = i
    · refine ⟨fun h2 => by omega, fun _ => ?_⟩
      rw [h, gset_eq _ _ (by rw [io2_length]; exact hi), ih.1 (by omega), Int.mul_emod, mu_md, ← Int.mul_emod]
      have hv := ilf_inv hx d (by omega)
      rw [show xs.length - d = i + 1 by omega, Int.mul_emod, ipre_succ hx i hi, ← Int.mul_emod] at hv
      rw [← hv]; congr 1; grind
    · rw [gset_ne _ _ h]
      exact ⟨fun h2 => ih.1 (by omega), fun h2 => ih.2 (by omega)⟩
/-! Interpolate. -/
section
variable {X : List Int}
theorem unlike (hnd : ¬ dup X) (i j : Nat) (hi : i < X.length) (hj : j < X.length) (hij : i ≠ j) : X.getD i 0 % 7 ≠ X.getD j 0 % 7 := fun h => by
  rcases Nat.lt_or_gt_of_ne hij with h1 | h1
  · exact hnd ⟨j, i, h1, hj, (su_zero _ _).2 h.symm⟩
  · exact hnd ⟨i, j, h1, hi, (su_zero _ _).2 h⟩
theorem wl_zero (hnd : ¬ dup X) (i m : Nat) (hi : i < X.length) (hm : m < X.length) (him : m ≠ i) : Ez (wl X i) (X.getD m 0) % 7 = 0 := by
  have h := Ez_div (pol_length X X.length) (X.getD i 0) (X.getD m 0)
  have h0 : (Ez (pol X X.length) (X.getD m 0) - Ez (pol X X.length) (X.getD i 0)) % 7 = 0 := by rw [Int.sub_emod, pol_root X _ m hm, pol_root X _ i hi]; rfl
  rw [h0] at h
  refine prime7 _ _ h ?_
  have := unlike hnd m i hm hi him
  omega
theorem wl_nz (hnd : ¬ dup X) (i : Nat) (hi : i < X.length) : Ez (wl X i) (X.getD i 0) % 7 ≠ 0 := fun h => by
  have hz := roots X.length (wl X i) (fun m => X.getD m 0) (wl_length X i) (fun a b h1 h2 => unlike hnd a b h2 (by omega) (by omega)) (fun m hm => by
    by_cases hmi : m = i
    · subst hmi; exact h
    · exact wl_zero hnd i m hi hm hmi)
  obtain ⟨n, hn⟩ : ∃ n, X.length = n + 1 := ⟨X.length - 1, by omega⟩
  have h1 := div_lead (c := pol X X.length) (n := n) (by rw [pol_length, hn]) (X.getD i 0)
  have h2 := pol_lead X X.length
  have h3 := hz n (by omega)
  rw [← hn] at h1
  unfold wl at h3
  omega
theorem atl_get (k i : Nat) (hk : k ≤ X.length) (hi : i < k) : (atl X k).getD i 0 = ev7 (wl X i) (X.getD i 0) := by
  induction k with
  | zero => omega
  | succ k ih =>
    rw [atl]
    by_cases h : k = i
    · subst h; rw [gset_eq _ _ (by rw [atl_length]; omega)]
    · rw [gset_ne _ _ h]; exact ih (by omega) (by omega)
theorem ivl_get (hnd : ¬ dup X) (i : Nat) (hi : i < X.length) : ((ivl X).getD i 0 * Ez (wl X i) (X.getD i 0)) % 7 = 1 := by
  have hl := atl_length X X.length
  have ha : ∀ i, i < (atl X X.length).length → (atl X X.length).getD i 0 % 7 ≠ 0 := fun i hi => by
    rw [hl] at hi
    rw [atl_get X.length i (Nat.le_refl _) hi, ev_Ez]; exact wl_nz hnd i hi
  have h := (io2_get ha X.length (by rw [hl]; exact Nat.le_refl _) i (by rw [hl]; exact hi)).2 (by rw [hl]; omega)
  rw [atl_get X.length i (Nat.le_refl _) hi, Int.mul_emod, ev_Ez, ← Int.mul_emod] at h
  exact h
theorem adr_get (w : List Int) (f : Int) (O : List Int) (k j : Nat) (hk : k ≤ O.length) (hj : j < O.length) : (adr w f O k).getD j 0 % 7 = (O.getD j 0 + if j < k then f * w.getD j 0 else 0) % 7 := by
  induction k with
  | zero => rw [adr, if_neg (by omega), Int.add_zero]
  | succ k ih =>
    rw [adr]
    by_cases h : k = j
    · subst h
      rw [gset_eq _ _ (by rw [adr_length]; exact hj), ad_md, Int.add_emod, ih (by omega), mu_md, ← Int.add_emod, if_neg (by omega), if_pos (by omega), Int.add_zero]
    · rw [gset_ne _ _ h, ih (by omega)]
      by_cases h2 : j < k
      · rw [if_pos h2, if_pos (by omega)]
      · rw [if_neg h2, if_neg (by omega)]
theorem ipo_E (Y : List Int) (y : Int) (i : Nat) : Ez (ipo X Y i) y % 7 = sumz i (fun q => mu (Y.getD q 0) ((ivl X).getD q 0) * Ez (wl X q) y) % 7 := by
  induction i with
  | zero =>
    unfold Ez
    rw [ipo, List.length_replicate, sumz]
    refine sumz_mod0 fun i hi => ?_
    rw [List.getD_eq_getElem?_getD, List.getElem?_replicate, if_pos hi]; simp
  | succ i ih =>
    rw [sumz, Int.add_emod, ← ih, ← Int.add_emod]
    unfold Ez
    rw [ipo, adr_length, ipo_length, wl_length, ← sumz_mul, ← sumz_add]
    refine sumz_mod fun j hj => ?_
    rw [Int.mul_emod, adr_get _ _ _ _ _ (by rw [ipo_length]; exact Nat.le_refl _) (by rw [ipo_length]; exact hj), ← Int.mul_emod, if_pos hj]
    congr 1; grind
end
theorem field1 {X Y : List Int} (_h0 : 0 < X.length) (_hY : Y.length = X.length) (hnd : ¬ dup X) (i : Nat) (hi : i < X.length) : ev7 (ipo X Y X.length) (X.getD i 0) % 7 = Y.getD i 0 % 7 := by
  rw [ev_Ez, ipo_E]
  have e1 : sumz X.length (fun q => mu (Y.getD q 0) ((ivl X).getD q 0) * Ez (wl X q) (X.getD i 0)) % 7 = sumz X.length (fun q => if q = i then Y.getD q 0 else 0) % 7 := sumz_mod fun q hq => by
    by_cases h : q = i
    · subst h
      have hv := ivl_get hnd q hq
      rw [if_pos rfl, Int.mul_emod, mu_md, ← Int.mul_emod, Int.mul_assoc, Int.mul_emod, hv, Int.mul_one, Int.emod_emod_of_dvd _ (Int.dvd_refl 7)]
    · rw [if_neg h, Int.mul_emod, wl_zero hnd q i hq hi (Ne.symm h)]; simp
  rw [e1, sumz_delta hi]
theorem field2 {X Y : List Int} (h0 : 0 < X.length) (hY : Y.length = X.length) (hnd : ¬ dup X) (i : Nat) (hi : i < X.length) : (ipo X (evs X Y X.length) X.length).getD i 0 % 7 = Y.getD i 0 % 7 := by
  -- the difference has the places as roots
  have hD : ((List.range X.length).map fun j => (ipo X (evs X Y X.length) X.length).getD j 0 - Y.getD j 0).length = X.length := by simp
  have hg : ∀ j, j < X.length → ((List.range X.length).map fun j => (ipo X (evs X Y X.length) X.length).getD j 0 - Y.getD j 0).getD j 0 = (ipo X (evs X Y X.length) X.length).getD j 0 - Y.getD j 0 := fun j hj => by
    rw [List.getD_eq_getElem?_getD]; simp [hj]
  have hz := roots X.length _ (fun m => X.getD m 0) hD (fun a b h1 h2 => unlike hnd a b h2 (by omega) (by omega)) (fun m hm => by
    have h1 := field1 (Y := evs X Y X.length) h0 (evs_length _ _ _) hnd m hm
    have h2 : (evs X Y X.length).getD m 0 = ev7 Y (X.getD m 0) := by rw [List.getD_eq_getElem?_getD]; simp [evs, hm]
    rw [h2, ev_Ez, ev_Ez] at h1
    have h3 : Ez ((List.range X.length).map fun j => (ipo X (evs X Y X.length) X.length).getD j 0 - Y.getD j 0) (X.getD m 0) = Ez (ipo X (evs X Y X.length) X.length) (X.getD m 0) - Ez Y (X.getD m 0) := by
      unfold Ez
      rw [hD, ipo_length, hY, ← sumz_sub]
      refine sumz_congr fun j hj => ?_
      rw [hg j hj]; grind
    rw [h3, Int.sub_emod, h1, ← Int.sub_emod, Int.sub_self]; rfl) i hi
  rw [hg i hi] at hz
  omega
end Go.Vk
