/- Plain: InvertAll over the scalars and over the field. -/
import Derived.Test.YtalnkpdahpjmmaaDoorInvP
import Derived.Test.YtalnkpdahpjmmaaDoorScP
import Derived.Test.YtalnkpdahpjmmaaDoorFeP
set_option linter.unusedVariables false
set_option linter.unusedSimpArgs false
namespace Go.Vk
open Go Go.Vk.Num
def fs4 (n : Nat) : List Value := [.int .u64 ((lb n 0 : Nat) : Int), .int .u64 ((lb n 1 : Nat) : Int), .int .u64 ((lb n 2 : Nat) : Int), .int .u64 ((lb n 3 : Nat) : Int)]
theorem fs4_len (n : Nat) : (fs4 n).length = 4 := rfl
theorem fs4_one (n : Nat) : ∀ v ∈ fs4 n, v.oneCell' = true := by intro v hv; simp [fs4] at hv; rcases hv with rfl | rfl | rfl | rfl <;> rfl
def ff5 (x : F5) : List Value := [.int .u64 ((x.l0 : Nat) : Int), .int .u64 ((x.l1 : Nat) : Int), .int .u64 ((x.l2 : Nat) : Int), .int .u64 ((x.l3 : Nat) : Int), .int .u64 ((x.l4 : Nat) : Int)]
theorem ff5_len (x : F5) : (ff5 x).length = 5 := rfl
theorem ff5_one (x : F5) : ∀ v ∈ ff5 x, v.oneCell' = true := by intro v hv; simp [ff5] at hv; rcases hv with rfl | rfl | rfl | rfl | rfl <;> rfl
def F5.z : F5 := ⟨0, 0, 0, 0, 0⟩
def F5.u : F5 := ⟨1, 0, 0, 0, 0⟩
-- scalars
def smul (a b : Nat) : Nat := a * b % ll
def sinv (a : Nat) : Nat := a ^ (ll - 2) % ll
def szr (a : Nat) : Bool := decide (a % ll = 0)
abbrev spr := ipr smul szr 1 0
abbrev spl := ipl smul szr 1 0
abbrev slt := ilt smul sinv szr 1 0
abbrev sll := ill smul sinv szr 1 0
theorem spr_z {xs : List Nat} {k : Nat} (h : szr (xs.getD k 0) = true) : spr xs (k + 1) = spr xs k := if_pos h
theorem spr_n {xs : List Nat} {k : Nat} (h : ¬ szr (xs.getD k 0) = true) : spr xs (k + 1) = spr xs k * xs.getD k 0 % ll := if_neg h
theorem spl_s (xs : List Nat) (k : Nat) : spl xs (k + 1) = (spl xs k).set k (spr xs k) := rfl
theorem slt_z {xs : List Nat} {d : Nat} (h : szr (xs.getD (xs.length - 1 - d) 0) = true) : slt xs (d + 1) = slt xs d := if_pos h
theorem slt_n {xs : List Nat} {d : Nat} (h : ¬ szr (xs.getD (xs.length - 1 - d) 0) = true) : slt xs (d + 1) = slt xs d * xs.getD (xs.length - 1 - d) 0 % ll := if_neg h
theorem sll_z {xs : List Nat} {d : Nat} (h : szr (xs.getD (xs.length - 1 - d) 0) = true) : sll xs (d + 1) = (sll xs d).set (xs.length - 1 - d) 0 := by unfold sll; rw [ill, if_pos h]
theorem sll_n {xs : List Nat} {d : Nat} (h : ¬ szr (xs.getD (xs.length - 1 - d) 0) = true) : sll xs (d + 1) = (sll xs d).set (xs.length - 1 - d) ((sll xs d).getD (xs.length - 1 - d) 0 * slt xs d % ll) := by unfold sll; rw [ill, if_neg h]; rfl
theorem spr_lt (xs : List Nat) (k : Nat) : spr xs k < W256 := ipr_all smul szr 1 0 (p := fun x => x < W256) (by decide) (fun _ _ => Nat.lt_trans (Nat.mod_lt _ (by decide)) (by decide)) xs k
theorem slt_lt (xs : List Nat) (k : Nat) : slt xs k < W256 := ilt_all smul sinv szr 1 0 (p := fun x => x < W256) (fun _ _ => Nat.lt_trans (Nat.mod_lt _ (by decide)) (by decide)) (fun _ => Nat.lt_trans (Nat.mod_lt _ (by decide)) (by decide)) xs k
theorem sll_lt (xs : List Nat) (d j : Nat) : (sll xs d).getD j 0 < W256 := ill_all smul sinv szr 1 0 (p := fun x => x < W256) (by decide) (by decide) (fun _ _ => Nat.lt_trans (Nat.mod_lt _ (by decide)) (by decide)) xs d j
theorem sll_law (xs : List Nat) (i : Nat) (hi : i < xs.length) : (sll xs xs.length).getD i 0 % ll = xs.getD i 0 ^ (ll - 2) % ll ∧ (xs.getD i 0 % ll ≠ 0 → (sll xs xs.length).getD i 0 * xs.getD i 0 % ll = 1) :=
  inv_all ll_prime (fun _ h => ll_gen.fermat h) smul sinv (fun _ _ => rfl) (fun _ => rfl) szr (fun _ => decide_eq_true_iff) (by decide) xs i hi
-- the field
def fmu (a b : F5) : F5 := F5.of (a.val * b.val % pp)
def fiv (a : F5) : F5 := F5.of (a.val ^ (pp - 2) % pp)
def fzr (a : F5) : Bool := decide (a.val % pp = 0)
abbrev fpr := ipr fmu fzr F5.u F5.z
abbrev fpl := ipl fmu fzr F5.u F5.z
abbrev flt := ilt fmu fiv fzr F5.u F5.z
abbrev fll := ill fmu fiv fzr F5.u F5.z
theorem fpr_z {xs : List F5} {k : Nat} (h : fzr (xs.getD k F5.z) = true) : fpr xs (k + 1) = fpr xs k := if_pos h
theorem fpr_n {xs : List F5} {k : Nat} (h : ¬ fzr (xs.getD k F5.z) = true) : fpr xs (k + 1) = F5.of ((fpr xs k).val * (xs.getD k F5.z).val % pp) := if_neg h
theorem fpl_s (xs : List F5) (k : Nat) : fpl xs (k + 1) = (fpl xs k).set k (fpr xs k) := rfl
theorem flt_z {xs : List F5} {d : Nat} (h : fzr (xs.getD (xs.length - 1 - d) F5.z) = true) : flt xs (d + 1) = flt xs d := if_pos h
theorem flt_n {xs : List F5} {d : Nat} (h : ¬ fzr (xs.getD (xs.length - 1 - d) F5.z) = true) : flt xs (d + 1) = F5.of ((flt xs d).val * (xs.getD (xs.length - 1 - d) F5.z).val % pp) := if_neg h
theorem fll_z {xs : List F5} {d : Nat} (h : fzr (xs.getD (xs.length - 1 - d) F5.z) = true) : fll xs (d + 1) = (fll xs d).set (xs.length - 1 - d) F5.z := by unfold fll; rw [ill, if_pos h]
theorem fll_n {xs : List F5} {d : Nat} (h : ¬ fzr (xs.getD (xs.length - 1 - d) F5.z) = true) : fll xs (d + 1) = (fll xs d).set (xs.length - 1 - d) (F5.of (((fll xs d).getD (xs.length - 1 - d) F5.z).val * (flt xs d).val % pp)) := by unfold fll; rw [ill, if_neg h]; rfl
theorem F5.z_ok : F5.z.ok := ⟨by decide, by decide, by decide, by decide, by decide⟩
theorem F5.u_ok : F5.u.ok := ⟨by decide, by decide, by decide, by decide, by decide⟩
theorem fpr_ok (xs : List F5) (k : Nat) : (fpr xs k).ok := ipr_all fmu fzr F5.u F5.z (p := F5.ok) F5.u_ok (fun _ _ => F5.of_ok _) xs k
theorem flt_ok (xs : List F5) (k : Nat) : (flt xs k).ok := ilt_all fmu fiv fzr F5.u F5.z (p := F5.ok) (fun _ _ => F5.of_ok _) (fun _ => F5.of_ok _) xs k
theorem fll_ok (xs : List F5) (d j : Nat) : ((fll xs d).getD j F5.z).ok := ill_all fmu fiv fzr F5.u F5.z (p := F5.ok) F5.z_ok F5.u_ok (fun _ _ => F5.of_ok _) xs d j
theorem fll_law (xs : List F5) (i : Nat) (hi : i < xs.length) : ((fll xs xs.length).getD i F5.z).val % pp = (xs.getD i F5.z).val ^ (pp - 2) % pp ∧ ((xs.getD i F5.z).val % pp ≠ 0 → ((fll xs xs.length).getD i F5.z).val * (xs.getD i F5.z).val % pp = 1) := by
  have h := inv_all pp_prime (fun _ h => pp_gen.fermat h) (fun a b => a * b % pp) (fun a => a ^ (pp - 2) % pp) (fun _ _ => rfl) (fun _ => rfl) (fun a => decide (a % pp = 0)) (fun _ => decide_eq_true_iff) (by decide) (xs.map F5.val) i (by simpa using hi)
  have e := ill_map F5.val fmu fiv fzr F5.u F5.z (fun a b => a * b % pp) (fun a => a ^ (pp - 2) % pp) (fun a => decide (a % pp = 0)) 1 0 (fun a b => of_val_mod _) (fun a => of_val_mod _) (fun _ => rfl) rfl rfl xs i hi
  rw [List.length_map, ← e, getD_map' F5.val F5.z 0 rfl] at h
  exact h
end Go.Vk
