/- Interpolate over Seven: what it needs. -/
import Derived.Test.YthmlkndmpkcjdaaFieldA
import Derived.Test.YthmlkndmpkcjdaaVq
set_option linter.unusedVariables false
set_option linter.unusedSimpArgs false
namespace Go.Vk
open Go Go.RowKit Go.Proofs
def pol (xs : List Int) : Nat → List Int
  | 0 => [1]
  | i + 1 => pr7 (pol xs i) [su 0 (xs.getD i 0), 1]
theorem pr7_length {c d : List Int} (h1 : 0 < c.length) (h2 : 0 < d.length) : (pr7 c d).length = c.length + d.length - 1 := by
  rw [pr7, if_neg (by omega), pout_length]
theorem pol_length (xs : List Int) (i : Nat) : (pol xs i).length = i + 1 := by
  induction i with
  | zero => rfl
  | succ i ih => rw [pol, pr7_length (by omega) (by simp), ih]; rfl
theorem c_product' (w0 : World) (v u : Value) (c d : List Int) (n : Nat) (hv : Rd w0 v 1 f7 c) (hu : Rd w0 u 1 f7 d) (hc : c.length = n + 1) (hd : d.length = 2) (hn : n ≤ 1000000) : Gives Try.prog 85 #[v, u] w0 72 1 (n + 1 + 1) ((pr7 c d).flatMap f7) (fun v => v) := by
  have h := c_product w0 v u c d hv hu (by omega) (by omega) (by omega) (by omega)
  rw [hc, hd] at h
  have e : pr7 c d = pout c d (n + 1) := by rw [pr7, if_neg (by omega), hc]
  rw [e]; exact h
theorem c_without' (w0 : World) (v : Value) (c : List Int) (x : Int) (n : Nat) (hv : Rd w0 v 1 f7 c) (hc : c.length = n + 1) (hn : n ≤ 1000000) : Gives Try.prog 86 #[v, .agg #[.int .i64 x]] w0 72 1 n ((wo7 c x).flatMap f7) (fun v => v) := by
  have h := c_without w0 v c x hv (by omega) (by omega)
  rw [hc, Nat.add_sub_cancel] at h
  exact h
theorem wo7_length {c : List Int} {n : Nat} (x : Int) (hc : c.length = n + 1) : (wo7 c x).length = n := by rw [wo7, wls_length, hc, Nat.add_sub_cancel]
theorem c_invall' (w0 : World) (v : Value) (xs : List Int) (n : Nat) (hv : Rd w0 v 1 f7 xs) (hn : xs.length = n) (h0 : 0 < n) (hl : n ≤ 1000000) : Gives Try.prog 87 #[v] w0 72 1 n ((io2 xs n).flatMap f7) (fun v => v) := by
  subst hn; exact c_invall w0 v xs hv h0 hl
/-- The rows of rest, as far as they are there. -/
def ro (n : Nat) (rr : List (Value × List B)) : List Value := rr.map Prod.fst ++ List.replicate (n - rr.length) (.slice none 0 0)
theorem ro_length {n : Nat} {rr : List (Value × List B)} (h : rr.length ≤ n) : (ro n rr).length = n := by simp [ro]; omega
theorem ro_set {n : Nat} {rr : List (Value × List B)} (x : Value × List B) (h : rr.length < n) : (ro n rr).set rr.length x.1 = ro n (rr ++ [x]) := by
  unfold ro
  rw [List.set_append_right _ _ (by simp), List.length_map, Nat.sub_self]
  have e : n - rr.length = (n - (rr ++ [x]).length) + 1 := by simp; omega
  rw [e, List.replicate_succ, List.set_cons_zero]
  simp
theorem ro_get {n i : Nat} {rr : List (Value × List B)} (h : i < rr.length) : (ro n rr).getD i undef = (rr.getD i (undef, [])).1 := by
  rw [List.getD_eq_getElem?_getD, ro, List.getElem?_append_left (by simpa using h), List.getD_eq_getElem?_getD]
  simp [h]
def RR (n : Nat) (f : Nat → List Int) (rr : List (Value × List B)) : Prop := ∀ q, q < rr.length → Rw 72 1 (rr.getD q (undef, [])).1 n ((f q).flatMap f7) (rr.getD q (undef, [])).2
theorem RR.nil (n : Nat) (f : Nat → List Int) : RR n f [] := fun q hq => by simp at hq
theorem RR.snoc {n : Nat} {f : Nat → List Int} {rr : List (Value × List B)} {v : Value} {ob : List B} (h : RR n f rr) (hr : Rw 72 1 v n ((f rr.length).flatMap f7) ob) : RR n f (rr ++ [(v, ob)]) := fun q hq => by
  by_cases hq2 : q < rr.length
  · rw [List.getD_eq_getElem?_getD, List.getElem?_append_left hq2, ← List.getD_eq_getElem?_getD]; exact h q hq2
  · have : q = rr.length := by simp at hq; omega
    subst this
    rw [List.getD_eq_getElem?_getD, List.getElem?_append_right (Nat.le_refl _), Nat.sub_self]
    exact hr
theorem rr_sub {rr : List (Value × List B)} {q : Nat} (h : q < rr.length) : (rr.getD q (undef, [])).2.Sublist (rr.flatMap Prod.snd) := by
  rw [gdz h]
  have : rr[q] ∈ rr := List.getElem_mem h
  rw [List.flatMap_def]
  exact List.sublist_flatten_of_mem (List.mem_map.2 ⟨_, this, rfl⟩)
def wl (xs : List Int) (q : Nat) : List Int := wo7 (pol xs xs.length) (xs.getD q 0)
theorem wl_length (xs : List Int) (q : Nat) : (wl xs q).length = xs.length := wo7_length _ (pol_length _ _)
def atl (xs : List Int) : Nat → List Int
  | 0 => List.replicate xs.length 0
  | k + 1 => (atl xs k).set k (ev7 (wl xs k) (xs.getD k 0))
theorem atl_length (xs : List Int) (k : Nat) : (atl xs k).length = xs.length := by
  induction k with
  | zero => simp [atl]
  | succ k ih => simp [atl, ih]
/-- To the list O is added f times w, its first k places. -/
def adr (w : List Int) (f : Int) (O : List Int) : Nat → List Int
  | 0 => O
  | k + 1 => (adr w f O k).set k (ad ((adr w f O k).getD k 0) (mu f (w.getD k 0)))
theorem adr_length (w : List Int) (f : Int) (O : List Int) (k : Nat) : (adr w f O k).length = O.length := by
  induction k with
  | zero => rfl
  | succ k ih => simp [adr, ih]
/-- The inverses that Interpolate takes. -/
def ivl (xs : List Int) : List Int := io2 (atl xs xs.length) xs.length
theorem ivl_length (xs : List Int) : (ivl xs).length = xs.length := by rw [ivl, io2_length, atl_length]
def ipo (xs ys : List Int) : Nat → List Int
  | 0 => List.replicate xs.length 0
  | i + 1 => adr (wl xs i) (mu (ys.getD i 0) ((ivl xs).getD i 0)) (ipo xs ys i) xs.length
theorem ipo_length (xs ys : List Int) (i : Nat) : (ipo xs ys i).length = xs.length := by
  induction i with
  | zero => simp [ipo]
  | succ i ih => rw [ipo, adr_length, ih]
def dup (xs : List Int) : Prop := ∃ i j, j < i ∧ i < xs.length ∧ su (xs.getD i 0) (xs.getD j 0) % 7 = 0
end Go.Vk
