/- What functions of the program do: walks, printed by a program of my own. -/
import Derived.Test.YthmlkndmpkcjdaaSevenD
set_option linter.unusedVariables false
set_option linter.unusedSimpArgs false
namespace Go.Vk
open Go Go.RowKit Go.Proofs
theorem take_snoc {α : Type} (l : List α) {i : Nat} (h : i < l.length) (d : α) : l.take (i + 1) = l.take i ++ [l.getD i d] := by
  rw [gdz h, List.take_succ_eq_append_getElem h]
theorem take_eq {α : Type} {l : List α} {i m : Nat} (h : i = min l.length m) : l.take i = l.take m := by
  subst h; rcases Nat.le_total l.length m with h | h
  · rw [Nat.min_eq_left h, List.take_of_length_le (Nat.le_refl _), List.take_of_length_le h]
  · rw [Nat.min_eq_right h]
theorem c_sevens (w0 : World) (v : Value) (l : List Int) (hv : Rd w0 v 1 f7 l) : Gives Try.prog 40 #[v] w0 72 1 (min l.length 40) ((l.take 40).flatMap f7) (fun v => v) := by
  obtain ⟨ao, cap, rfl, hx⟩ := hv.o
  unfold Gives
  refine calls_start Try.func40 rfl ?_
  refine C_seq ?_
  refine C_region ?_
  refine S_val (.slice none 0 0) (by kernel_rfl) (fun _ _ => by kernel_rfl) ?_
  refine S_nil ?_
  refine E_then ?_
  refine C_seq ?_
  refine C_region ?_
  refine S_val (.slice none 0 0) (by kernel_rfl) (fun _ _ => by kernel_rfl) ?_
  refine S_nil ?_
  refine E_then ?_
  refine C_seq ?_
  refine C_seq ?_
  refine C_region ?_
  refine S_val (.int .i64 0) (by kernel_rfl) (fun _ _ => by kernel_rfl) ?_
  refine S_nil ?_
  refine E_then ?_
  refine C_block ?_
  refine C_loop3 (fun (i : Nat) (v : Value) (ob : List B) => (i ≤ l.length) ∧ (i ≤ 40) ∧ (Rw 72 1 v i ((l.take i).flatMap f7) ob)) (fun (i : Nat) (v : Value) (ob : List B) => fun g => ⟨#[.slice ao l.length cap, g 1, g 2, v, .int .i64 ((i : Nat) : Int), g 5, g 6, g 7, g 8, g 9, g 10, g 11, g 12, g 13, g 14, g 15, g 16, g 17, g 18, g 19, g 20, g 21, g 22, g 23], []⟩) (fun (i : Nat) (v : Value) (ob : List B) => [] ++ ob) (fun (i : Nat) (v : Value) (ob : List B) => l.length - i) 0 (.slice none 0 0) [] (by (try dsimp only); exact ⟨Nat.zero_le _, Nat.zero_le _, Rw.nil 72 1⟩) (by kernel_rfl) (by first | (dsimp only; done) | ((try dsimp only); kernel_rfl)) ?_
  rintro i v ob g1 ⟨hi, hi40, hr⟩
  refine C_seq ?_
  refine C_seq ?_
  by_cases h1 : i < l.length
  · refine C_region ?_
    refine S_val (.int .i64 ((i : Nat) : Int)) (by kernel_rfl) (fun _ _ => by kernel_rfl) ?_
    refine S_val (.slice ao l.length cap) (by kernel_rfl) (fun _ _ => by kernel_rfl) ?_
    refine S_val (.int .i64 ((l.length : Nat) : Int)) (by kernel_rfl) (fun _ _ => by kernel_rfl) ?_
    refine S_val (.bool true) (by kernel_rfl) (fun _ _ => fv (v := .bool (decide (((i : Nat) : Int) < ((l.length : Nat) : Int)))) (vbool (decide_eq_true (by omega))) (by kernel_rfl)) ?_
    refine S_val (.bool true) (by kernel_rfl) (fun _ _ => by kernel_rfl) ?_
    refine S_val (.int .i64 ((i : Nat) : Int)) (by kernel_rfl) (fun _ _ => by kernel_rfl) ?_
    refine S_val (.bool (decide (((i : Nat) : Int) < 40))) (by kernel_rfl) (fun _ _ => by kernel_rfl) ?_
    refine S_val (.bool (decide (((i : Nat) : Int) < 40))) (by kernel_rfl) (fun _ _ => by kernel_rfl) ?_
    refine S_nil ?_
    refine E_then ?_
    refine C_if (decide (((i : Nat) : Int) < 40)) (by kernel_rfl) (fun h2 => ?_) (fun h2 => ?_)
    · replace h2 := of_decide_eq_true h2
      obtain ⟨bi2, oi3, rfl, hi4⟩ := hx.op (by omega)
      refine C_skip ?_
      refine E_then ?_
      refine C_seq ?_
      refine C_block ?_
      refine C_region ?_
      refine S_val (v) (by kernel_rfl) (fun _ _ => by kernel_rfl) ?_
      refine S_val (.slice (some ⟨bi2, oi3, none⟩) l.length cap) (by kernel_rfl) (fun _ _ => by kernel_rfl) ?_
      refine S_val (.int .i64 ((i : Nat) : Int)) (by kernel_rfl) (fun _ _ => by kernel_rfl) ?_
      refine S_val (.pointer (some ⟨bi2, oi3 + i * 1, none⟩)) (by kernel_rfl) (fun w _ => (ixS (k := .i64) bi2 oi3 l.length cap 1 i rfl (by kernel_rfl) (by kernel_rfl) Try.underlying67 Try.sizeOf3 (by omega)) w) ?_
      refine S_val (.int .i64 (l.getD i 0)) (by kernel_rfl) (ldR1 (v := .int .i64 (l.getD i 0)) 0 i 0 bi2 oi3 (oi3 + i * 1) hi4 rfl (by kernel_rfl) rfl (by omega) rfl Try.isAgg3) ?_
      refine S_val (.agg #[.int .i64 (l.getD i 0)]) (by kernel_rfl) (fun _ _ => by kernel_rfl) ?_
      refine S_newv (fun nb0 => .slice (some ⟨nb0, 0, none⟩) 1 1) [.int .i64 (l.getD i 0)] 72 (by kernel_rfl) (fun w _ => by kernel_rfl) ?_
      intro b5 hb5 Hb5
      refine S_app (sz := 1) (n := i + 1) (xs := ((l.take i).flatMap f7) ++ [.int .i64 (l.getD i 0)]) (fun ob' => [⟨b5, [.int .i64 (l.getD i 0)], 72⟩] ++ ob') (by intro ob'; simp) (by kernel_rfl) (up_app (L1 := [⟨b5, [.int .i64 (l.getD i 0)], 72⟩]) (ob := ob) (L2 := []) (n := i) (xs := ((l.take i).flatMap f7)) 69 72 Try.t72 (.agg #[.int .i64 0]) Try.underlying69 (by kernel_rfl) (by kernel_rfl) (by kernel_rfl) rfl hr (by simp) ⟨b5, 0, none⟩ 1 1 [.int .i64 (l.getD i 0)] (by kernel_rfl) (by kernel_rfl) (by kernel_rfl) (fun w hO j9 u9 hu => by rw [add_none, Nat.zero_add, hO.cellAt 0 (b := b5) (cs := [.int .i64 (l.getD i 0)]) (ty := 72) (by kernel_rfl)]; exact hu) (by simp [Value.oneCell']) (by decide) (by simp only [Try.t72]; omega) (le_maxLen (by omega))) ?_
      intro v6 ob7 hr8
      replace hr8 : Rw 72 1 v6 (i + 1) (((l.take i) ++ [l.getD i 0]).flatMap f7) ob7 := by first | exact hr8 | (rw [List.flatMap_append]; exact hr8)
      refine S_val (v6) (by kernel_rfl) (fun _ _ => by kernel_rfl) ?_
      refine S_nil ?_
      refine E_inblock ?_
      refine E_then ?_
      refine C_region ?_
      refine S_val (.int .i64 ((i : Nat) : Int)) (by kernel_rfl) (fun _ _ => by kernel_rfl) ?_
      refine S_val (.int .i64 ((i + 1 : Nat) : Int)) (by kernel_rfl) (fun _ _ => fv (v := .int .i64 (IntKind.i64.wrap (((i : Nat) : Int) + 1))) (vint (w64 (by omega) (by omega) (by omega))) (by kernel_rfl)) ?_
      refine S_val (.int .i64 ((i + 1 : Nat) : Int)) (by kernel_rfl) (fun _ _ => by kernel_rfl) ?_
      refine S_nil ?_
      exact E_norm (fun w hw => ⟨i + 1, v6, ob7, ⟨by omega, by omega, by rw [take_snoc _ h1 0]; exact hr8⟩, (by kernel_rfl), (by (try dsimp only); omega), hw.sub (by simp)⟩)
    · replace h2 := of_decide_eq_false h2
      refine C_exit ?_
      refine E_pass_exit ?_
      refine E_pass_exit ?_
      refine E_outblock ?_
      refine E_then ?_
      refine C_seq ?_
      refine C_region ?_
      refine S_val (v) (by kernel_rfl) (fun _ _ => by kernel_rfl) ?_
      refine S_val (v) (by kernel_rfl) (fun _ _ => by kernel_rfl) ?_
      refine S_nil ?_
      refine E_then ?_
      refine C_ret ?_
      have e : l.take i = l.take 40 := take_eq (by omega)
      have e2 : i = min l.length 40 := by omega
      subst e2
      exact gives_row (mk := fun v => v) (n := min l.length 40) (xs := (l.take 40).flatMap f7) (by rw [← e]; exact hr) (List.sublist_append_right _ _) rfl (res1 Try.results40 (by kernel_rfl))
  · refine C_region ?_
    refine S_val (.int .i64 ((i : Nat) : Int)) (by kernel_rfl) (fun _ _ => by kernel_rfl) ?_
    refine S_val (.slice ao l.length cap) (by kernel_rfl) (fun _ _ => by kernel_rfl) ?_
    refine S_val (.int .i64 ((l.length : Nat) : Int)) (by kernel_rfl) (fun _ _ => by kernel_rfl) ?_
    refine S_val (.bool false) (by kernel_rfl) (fun _ _ => fv (v := .bool (decide (((i : Nat) : Int) < ((l.length : Nat) : Int)))) (vbool (decide_eq_false (by omega))) (by kernel_rfl)) ?_
    refine S_val (.bool false) (by kernel_rfl) (fun _ _ => by kernel_rfl) ?_
    refine S_not (by kernel_rfl) ?_
    refine S_not (by kernel_rfl) ?_
    refine S_val (.bool false) (by kernel_rfl) (fun _ _ => by kernel_rfl) ?_
    refine S_nil ?_
    refine E_then ?_
    refine C_false (by kernel_rfl) ?_
    refine C_exit ?_
    refine E_pass_exit ?_
    refine E_pass_exit ?_
    refine E_outblock ?_
    refine E_then ?_
    refine C_seq ?_
    refine C_region ?_
    refine S_val (v) (by kernel_rfl) (fun _ _ => by kernel_rfl) ?_
    refine S_val (v) (by kernel_rfl) (fun _ _ => by kernel_rfl) ?_
    refine S_nil ?_
    refine E_then ?_
    refine C_ret ?_
    have e : l.take i = l.take 40 := take_eq (by omega)
    have e2 : i = min l.length 40 := by omega
    subst e2
    exact gives_row (mk := fun v => v) (n := min l.length 40) (xs := (l.take 40).flatMap f7) (by rw [← e]; exact hr) (List.sublist_append_right _ _) rfl (res1 Try.results40 (by kernel_rfl))
end Go.Vk
