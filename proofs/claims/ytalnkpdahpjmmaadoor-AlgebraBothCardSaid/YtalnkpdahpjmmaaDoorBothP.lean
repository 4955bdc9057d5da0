/- Plain: what AlgebraBoth makes and asks. -/
import Derived.Test.YtalnkpdahpjmmaaDoorInvQ
import Derived.Test.YtalnkpdahpjmmaaDoorSevenM
set_option linter.unusedVariables false
set_option linter.unusedSimpArgs false
namespace Go.Vk
open Go Go.Vk.Num
theorem take_snoc {α : Type} (l : List α) {i : Nat} (h : i < l.length) (d : α) : l.take (i + 1) = l.take i ++ [l.getD i d] := by
  rw [gdz h, List.take_succ_eq_append_getElem h]
theorem take_eq {α : Type} {l : List α} {i m : Nat} (h : i = min l.length m) : l.take i = l.take m := by
  subst h; rcases Nat.le_total l.length m with h | h
  · rw [Nat.min_eq_left h, List.take_of_length_le (Nat.le_refl _), List.take_of_length_le h]
  · rw [Nat.min_eq_right h]
/-- own's list behind i rounds. -/
def ow (xs : List Nat) (i : Nat) : List Nat := xs.take i ++ List.replicate (xs.length + 2 - i) 0
theorem ow_length (xs : List Nat) {i : Nat} (h : i ≤ xs.length) : (ow xs i).length = xs.length + 2 := by simp [ow]; omega
theorem ow_set (xs : List Nat) {i : Nat} (h : i < xs.length) : (ow xs i).set i (xs.getD i 0) = ow xs (i + 1) := by
  unfold ow
  have e : xs.length + 2 - i = (xs.length + 2 - (i + 1)) + 1 := by omega
  rw [take_snoc xs h 0, e, List.replicate_succ, List.set_append_right _ _ (by simp; omega)]
  have : i - (xs.take i).length = 0 := by simp; omega
  rw [this]; simp
theorem ow_fin (xs : List Nat) : ((ow xs xs.length).set xs.length 71).set (xs.length + 1) 72 = xs ++ [71, 72] := by
  unfold ow
  rw [List.take_length, show xs.length + 2 - xs.length = 2 by omega, show List.replicate 2 0 = [0, 0] from rfl]
  rw [List.set_append_right _ _ (Nat.le_refl _), Nat.sub_self, List.set_append_right _ _ (by omega), Nat.add_sub_cancel_left]; rfl
/-- Each element and its negative. -/
def fng (x : F5) : F5 := F5.of (fsb 0 x.val)
def bal (ys : List F5) (k : Nat) : List F5 := (ys.take k).flatMap fun x => [x, fng x]
theorem bal_length (ys : List F5) {k : Nat} (h : k ≤ ys.length) : (bal ys k).length = 2 * k := by
  unfold bal
  induction k with
  | zero => simp
  | succ k ih => rw [take_snoc ys (by omega) F5.z, List.flatMap_append, List.length_append, ih (by omega)]; simp; omega
theorem bal_succ (ys : List F5) {k : Nat} (h : k < ys.length) : bal ys (k + 1) = bal ys k ++ [ys.getD k F5.z, fng (ys.getD k F5.z)] := by
  unfold bal; rw [take_snoc ys h F5.z, List.flatMap_append]; rfl
/-- A sum. -/
def fsm (xs : List F5) : Nat → F5
  | 0 => F5.z
  | k + 1 => F5.of (((fsm xs k).val + (xs.getD k F5.z).val) % pp)
theorem fsm_ok (xs : List F5) (k : Nat) : (fsm xs k).ok := by
  cases k with
  | zero => exact F5.z_ok
  | succ k => exact F5.of_ok _
theorem fsm_bal (ys : List F5) (k : Nat) (hk : k ≤ ys.length) : (fsm (bal ys ys.length) (2 * k)).val % pp = 0 := by
  have get : ∀ j, j < ys.length → (bal ys ys.length).getD (2 * j) F5.z = ys.getD j F5.z ∧ (bal ys ys.length).getD (2 * j + 1) F5.z = fng (ys.getD j F5.z) := by
    intro j hj
    have key : ∀ m, j < m → m ≤ ys.length → (bal ys m).getD (2 * j) F5.z = ys.getD j F5.z ∧ (bal ys m).getD (2 * j + 1) F5.z = fng (ys.getD j F5.z) := by
      intro m
      induction m with
      | zero => omega
      | succ m ih =>
        intro h1 h2
        rw [bal_succ ys (by omega)]
        have hl := bal_length ys (show m ≤ ys.length by omega)
        by_cases h : j = m
        · subst h
          refine ⟨?_, ?_⟩
          · rw [List.getD_eq_getElem?_getD (l := bal ys j ++ _), List.getElem?_append_right (by omega), hl, Nat.sub_self]; rfl
          · rw [List.getD_eq_getElem?_getD (l := bal ys j ++ _), List.getElem?_append_right (by omega), hl, Nat.add_sub_cancel_left]; rfl
        · have := ih (by omega) (by omega)
          refine ⟨?_, ?_⟩
          · rw [List.getD_eq_getElem?_getD (l := bal ys m ++ _), List.getElem?_append_left (by omega), ← List.getD_eq_getElem?_getD]; exact this.1
          · rw [List.getD_eq_getElem?_getD (l := bal ys m ++ _), List.getElem?_append_left (by omega), ← List.getD_eq_getElem?_getD]; exact this.2
    exact key ys.length hj (Nat.le_refl _)
  induction k with
  | zero => show F5.z.val % pp = 0; decide
  | succ k ih =>
    have ih := ih (by omega)
    obtain ⟨g1, g2⟩ := get k (by omega)
    rw [show 2 * (k + 1) = 2 * k + 1 + 1 by omega, fsm, fsm, g1, g2]
    rw [of_val_mod, of_val_mod, Nat.mod_mod]
    unfold fng
    rw [show fsb 0 (ys.getD k F5.z).val = (0 + (pp - (ys.getD k F5.z).val % pp)) % pp from rfl, of_val_mod]
    generalize (ys.getD k F5.z).val = x
    generalize (fsm (bal ys ys.length) (2 * k)).val = s at *
    unfold pp at *
    omega
end Go.Vk
namespace Go.Vk
open Go Go.Vk.Num
theorem getD_take {α : Type} {p : α → Prop} {xs : List α} {d : α} (hd : p d) (h : ∀ j, p (xs.getD j d)) (n : Nat) : ∀ j, p ((xs.take n).getD j d) := fun j => by
  rw [List.getD_eq_getElem?_getD, List.getElem?_take]
  split
  · rw [← List.getD_eq_getElem?_getD]; exact h j
  · exact hd
theorem sll_zero (xs : List Nat) (i : Nat) (hi : i < xs.length) : szr ((sll xs xs.length).getD i 0) = szr (xs.getD i 0) := by
  have h := sll_law xs i hi
  unfold szr
  rw [Bool.eq_iff_iff, decide_eq_true_eq, decide_eq_true_eq]
  constructor
  · intro h0
    refine Decidable.byContradiction fun hx => ?_
    have := h.2 hx
    rw [Nat.mul_mod, h0, Nat.zero_mul, Nat.zero_mod] at this
    cases this
  · intro h0
    rw [h.1, Nat.pow_mod, h0, Nat.zero_pow (by decide)]; rfl
theorem sll_same (xs : List Nat) (i : Nat) (hi : i < xs.length) : decide ((sll xs xs.length).getD i 0 % ll = xs.getD i 0 ^ (ll - 2) % ll % ll) = true := decide_eq_true (by rw [Nat.mod_mod]; exact (sll_law xs i hi).1)
theorem sll_one (xs : List Nat) (i : Nat) (hi : i < xs.length) (h : ¬ szr (xs.getD i 0) = true) : decide ((sll xs xs.length).getD i 0 * xs.getD i 0 % ll % ll = 1 % ll) = true :=
  decide_eq_true (by rw [Nat.mod_mod, (sll_law xs i hi).2 (fun h0 => h (decide_eq_true h0))]; rfl)
theorem fll_same (xs : List F5) (i : Nat) (hi : i < xs.length) : decide (((fll xs xs.length).getD i F5.z).val % pp = (F5.of ((xs.getD i F5.z).val ^ (pp - 2) % pp)).val % pp) = true := decide_eq_true (by rw [of_val_mod, Nat.mod_mod]; exact (fll_law xs i hi).1)
theorem fll_one (xs : List F5) (i : Nat) (hi : i < xs.length) (h : ¬ fzr (xs.getD i F5.z) = true) : decide ((F5.of (((fll xs xs.length).getD i F5.z).val * (xs.getD i F5.z).val % pp)).val % pp = (F5.of (1 % pp)).val % pp) = true :=
  decide_eq_true (by rw [of_val_mod, of_val_mod, Nat.mod_mod, (fll_law xs i hi).2 (fun h0 => h (decide_eq_true h0))]; rfl)
theorem bal_ok {ys : List F5} (h : ∀ j, (ys.getD j F5.z).ok) (k : Nat) (hk : k ≤ ys.length) : ∀ j, ((bal ys k).getD j F5.z).ok := by
  have key : ∀ x ∈ bal ys k, x.ok := by
    intro x hx
    unfold bal at hx
    obtain ⟨y, hy, hx⟩ := List.mem_flatMap.1 hx
    simp at hx
    rcases hx with rfl | rfl
    · obtain ⟨j, hj⟩ := List.getElem?_of_mem (List.mem_of_mem_take hy)
      have := h j
      rw [List.getD_eq_getElem?_getD, hj] at this
      exact this
    · exact F5.of_ok _
  intro j
  rw [List.getD_eq_getElem?_getD]
  cases hj : (bal ys k)[j]? with
  | none => exact F5.z_ok
  | some x => exact key x (List.mem_of_getElem? hj)
theorem bal_zero (ys : List F5) : decide ((fsm (bal ys ys.length) (bal ys ys.length).length).val % pp = 0) = true := by
  rw [bal_length ys (Nat.le_refl _)]; exact decide_eq_true (fsm_bal ys ys.length (Nat.le_refl _))
end Go.Vk
