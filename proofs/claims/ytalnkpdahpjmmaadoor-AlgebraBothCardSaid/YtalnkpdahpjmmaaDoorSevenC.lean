/- What functions of the program do: walks, printed by a program of my own. -/
import Derived.Test.YtalnkpdahpjmmaaDoorSevenA
import Derived.Test.YtalnkpdahpjmmaaDoorSevenM
set_option linter.unusedVariables false
set_option linter.unusedSimpArgs false
namespace Go.Vk
open Go Go.RowKit Go.Proofs
theorem c_clear (w0 : World) (rest : List B) (o n k : Nat) (ids : List Nat) (R : List (List Int)) (hR : Sq n R) (hl : ids.length = R.length) (hk : k < n) (hn : n ≤ 1000) :
    ∀ w, Own w0 ([⟨o, (ids.flatMap (fo (n + 1))), 64⟩] ++ mat ids R ++ rest) w → Calls Tryd.prog 50 #[.slice (some ⟨o, 0, none⟩) n n, .int .i64 (k : Int)] w fun e w' =>
      (∃ x : { x : Nat × List Nat // k ≤ x.1 ∧ x.1 < n ∧ en R x.1 k % 7 ≠ 0 ∧ x.2.length = n }, e = .returned (.tuple #[]) ∧ Own w0 ([⟨o, x.1.2.flatMap (fo (n + 1)), 64⟩] ++ mat x.1.2 (cst n R k x.1.1) ++ rest) w') ∨
      (∃ _ : { _y : Unit // ∀ q, k ≤ q → q < n → en R q k % 7 = 0 }, e = .panicked [{ v := .iface 96 (.agg #[]), recovered := false }] ∧ Own w0 ([⟨o, (ids.flatMap (fo (n + 1))), 64⟩] ++ mat ids R ++ rest) w') := by
  have hid : ids.length = n := hl.trans hR.1
  refine calls_in Tryd.func50 rfl ?_
  refine C_seq ?_
  refine C_region ?_
  refine S_val (.int .i64 ((k : Nat) : Int)) (by kernel_rfl) (fun _ _ => by kernel_rfl) ?_
  refine S_val (.int .i64 ((k : Nat) : Int)) (by kernel_rfl) (fun _ _ => by kernel_rfl) ?_
  refine S_nil ?_
  refine E_then ?_
  refine C_seq ?_
  refine C_block ?_
  refine C_loop1 (fun (p : Nat) => (k ≤ p) ∧ (p ≤ n) ∧ (∀ q, k ≤ q → q < p → en R q k % 7 = 0)) (fun (p : Nat) => fun g => ⟨#[.slice (some ⟨o, 0, none⟩) n n, .int .i64 ((k : Nat) : Int), g 2, g 3, .int .i64 ((p : Nat) : Int), g 5, g 6, g 7, g 8, g 9, g 10, g 11, g 12, g 13, g 14, g 15, g 16, g 17, g 18, g 19, g 20, g 21, g 22, g 23, g 24, g 25, g 26, g 27, g 28, g 29, g 30, g 31, g 32, g 33, g 34, g 35, g 36, g 37, g 38, g 39, g 40, g 41, g 42, g 43, g 44, g 45, g 46, g 47, g 48, g 49, g 50, g 51, g 52, g 53, g 54, g 55, g 56, g 57, g 58, g 59, g 60, g 61, g 62, g 63, g 64, g 65, g 66, g 67, g 68, g 69, g 70, g 71, g 72, g 73, g 74, g 75, g 76, g 77, g 78, g 79, g 80, g 81, g 82, g 83, g 84, g 85, g 86, g 87, g 88, g 89, g 90, g 91, g 92, g 93, g 94, g 95, g 96, g 97, g 98, g 99, g 100, g 101, g 102, g 103, g 104, g 105, g 106, g 107, g 108, g 109, g 110, g 111, g 112, g 113, g 114, g 115, g 116, g 117, g 118, g 119, g 120, g 121, g 122, g 123, g 124, g 125, g 126, g 127, g 128, g 129, g 130], []⟩) (fun (p : Nat) => [⟨o, (ids.flatMap (fo (n + 1))), 64⟩] ++ mat ids R ++ rest) (fun (p : Nat) => n - p) k (by (try dsimp only); exact ⟨Nat.le_refl k, (by omega), fun q h1 h2 => (by omega)⟩) (by kernel_rfl) (by first | (dsimp only; done) | ((try dsimp only); kernel_rfl)) ?_
  rintro p g1 ⟨hp1, hp2, hp3⟩
  refine C_seq ?_
  refine C_seq ?_
  by_cases hpn : p < n
  · refine C_region ?_
    refine S_val (.int .i64 ((p : Nat) : Int)) (by kernel_rfl) (fun _ _ => by kernel_rfl) ?_
    refine S_val (.slice (some ⟨o, 0, none⟩) n n) (by kernel_rfl) (fun _ _ => by kernel_rfl) ?_
    refine S_val (.int .i64 ((n : Nat) : Int)) (by kernel_rfl) (fun _ _ => by kernel_rfl) ?_
    refine S_val (.bool true) (by kernel_rfl) (fun _ _ => fv (v := .bool (decide (((p : Nat) : Int) < ((n : Nat) : Int)))) (vbool (decide_eq_true (by omega))) (by kernel_rfl)) ?_
    refine S_val (.bool true) (by kernel_rfl) (fun _ _ => by kernel_rfl) ?_
    refine S_val (.slice (some ⟨o, 0, none⟩) n n) (by kernel_rfl) (fun _ _ => by kernel_rfl) ?_
    refine S_val (.int .i64 ((p : Nat) : Int)) (by kernel_rfl) (fun _ _ => by kernel_rfl) ?_
    refine S_val (.pointer (some ⟨o, 0 + p * 1, none⟩)) (by kernel_rfl) (fun w _ => (ixS (k := .i64) o 0 n n 1 p rfl (by kernel_rfl) (by kernel_rfl) Tryd.underlying69 Tryd.sizeOf64 (by omega)) w) ?_
    refine S_val (.slice (some ⟨ids.getD p 0, 0, none⟩) (n + 1) (n + 1)) (by kernel_rfl) (ldF1 (v := .slice (some ⟨ids.getD p 0, 0, none⟩) (n + 1) (n + 1)) (fo_len (n + 1)) ids 0 p (0 + p * 1) 0 o 64 rfl (by kernel_rfl) (by omega) (by omega) rfl Tryd.isAgg64 (by kernel_rfl)) ?_
    refine S_val (.int .i64 ((k : Nat) : Int)) (by kernel_rfl) (fun _ _ => by kernel_rfl) ?_
    refine S_val (.pointer (some ⟨ids.getD p 0, 0 + k * 1, none⟩)) (by kernel_rfl) (fun w _ => (ixS (k := .i64) (ids.getD p 0) 0 (n + 1) (n + 1) 1 k rfl (by kernel_rfl) (by kernel_rfl) Tryd.underlying64 Tryd.sizeOf68 (by omega)) w) ?_
    refine S_val (.agg #[.int .i64 ((R.getD p []).getD k 0)]) (by kernel_rfl) (ldF f7_len (R.getD p []) 0 k (0 + k * 1) (1 + p) (ids.getD p 0) 68 rfl (by kernel_rfl) (by omega) (by rw [hR.2 _ (by omega)]; omega) Tryd.isAgg68 Tryd.sizeOf68 (mat_at [⟨o, (ids.flatMap (fo (n + 1))), 64⟩] rest hl (by rw [hR.1]; omega))) ?_
    refine S_val (.iface 68 (.agg #[.int .i64 ((R.getD p []).getD k 0)])) (by kernel_rfl) (fun _ _ => by kernel_rfl) ?_
    refine S_pure (v := .bool (((R.getD p []).getD k 0) % 7 == 0)) (by kernel_rfl) (c_isZero ((R.getD p []).getD k 0)) (fun _ => by kernel_rfl) ?_
    refine S_val (.bool (((R.getD p []).getD k 0) % 7 == 0)) (by kernel_rfl) (fun _ _ => by kernel_rfl) ?_
    refine S_nil ?_
    refine E_then ?_
    refine C_if (((R.getD p []).getD k 0) % 7 == 0) (by kernel_rfl) (fun hz => ?_) (fun hz => ?_)
    · replace hz := eq_of_beq hz
      refine C_skip ?_
      refine E_then ?_
      refine C_block ?_
      refine C_region ?_
      refine S_val (.int .i64 ((p : Nat) : Int)) (by kernel_rfl) (fun _ _ => by kernel_rfl) ?_
      refine S_val (.int .i64 ((p + 1 : Nat) : Int)) (by kernel_rfl) (fun _ _ => fv (v := .int .i64 (IntKind.i64.wrap (((p : Nat) : Int) + 1))) (vint (w64 (by omega) (by omega) (by omega))) (by kernel_rfl)) ?_
      refine S_val (.int .i64 ((p + 1 : Nat) : Int)) (by kernel_rfl) (fun _ _ => by kernel_rfl) ?_
      refine S_nil ?_
      refine E_inblock ?_
      exact E_norm (fun w hw => ⟨p + 1, ⟨by omega, by omega, fun q h1 h2 => (by rcases Nat.lt_succ_iff_lt_or_eq.1 h2 with h3 | h3; exact hp3 q h1 h3; subst h3; exact hz)⟩, (by kernel_rfl), (by (try dsimp only); omega), hw⟩)
    · replace hz := ne_of_beq_false hz
      refine C_exit ?_
      refine E_pass_exit ?_
      refine E_pass_exit ?_
      refine E_outblock ?_
      refine E_then ?_
      refine C_seq ?_
      refine C_seq ?_
      refine C_region ?_
      refine S_val (.int .i64 ((p : Nat) : Int)) (by kernel_rfl) (fun _ _ => by kernel_rfl) ?_
      refine S_val (.slice (some ⟨o, 0, none⟩) n n) (by kernel_rfl) (fun _ _ => by kernel_rfl) ?_
      refine S_val (.int .i64 ((n : Nat) : Int)) (by kernel_rfl) (fun _ _ => by kernel_rfl) ?_
      refine S_val (.bool false) (by kernel_rfl) (fun _ _ => fv (v := .bool (((p : Nat) : Int) == ((n : Nat) : Int))) (vbool (beq_eq_false_iff_ne.2 (by omega))) (by kernel_rfl)) ?_
      refine S_nil ?_
      refine E_then ?_
      refine C_false (by kernel_rfl) ?_
      refine C_skip ?_
      refine E_then ?_
      refine C_seq ?_
      refine C_drawn [.pure, .pure, .pure, .pure, .pure, .pure, .pure, .held, .pure, .pure, .pure, .held, .pure, .eff, .pure, .eff] (by kernel_rfl) (by kernel_rfl) ?_
      refine D_val (.slice (some ⟨o, 0, none⟩) n n) (by kernel_rfl) (fun _ => by kernel_rfl) ?_
      refine D_val (.int .i64 ((k : Nat) : Int)) (by kernel_rfl) (fun _ => by kernel_rfl) ?_
      refine D_val (.slice (some ⟨o, 0, none⟩) n n) (by kernel_rfl) (fun _ => by kernel_rfl) ?_
      refine D_val (.int .i64 ((p : Nat) : Int)) (by kernel_rfl) (fun _ => by kernel_rfl) ?_
      refine D_val (.slice (some ⟨o, 0, none⟩) n n) (by kernel_rfl) (fun _ => by kernel_rfl) ?_
      refine D_val (.int .i64 ((p : Nat) : Int)) (by kernel_rfl) (fun _ => by kernel_rfl) ?_
      refine D_val (.pointer (some ⟨o, 0 + p * 1, none⟩)) (by kernel_rfl) (ixS (k := .i64) o 0 n n 1 p rfl (by kernel_rfl) (by kernel_rfl) Tryd.underlying69 Tryd.sizeOf64 (by omega)) ?_
      refine D_held (.slice (some ⟨ids.getD p 0, 0, none⟩) (n + 1) (n + 1)) (by kernel_rfl) (ldF1 (v := .slice (some ⟨ids.getD p 0, 0, none⟩) (n + 1) (n + 1)) (fo_len (n + 1)) ids 0 p (0 + p * 1) 0 o 64 rfl (by kernel_rfl) (by omega) (by omega) rfl Tryd.isAgg64 (by kernel_rfl)) ?_
      refine D_val (.slice (some ⟨o, 0, none⟩) n n) (by kernel_rfl) (fun _ => by kernel_rfl) ?_
      refine D_val (.int .i64 ((k : Nat) : Int)) (by kernel_rfl) (fun _ => by kernel_rfl) ?_
      refine D_val (.pointer (some ⟨o, 0 + k * 1, none⟩)) (by kernel_rfl) (ixS (k := .i64) o 0 n n 1 k rfl (by kernel_rfl) (by kernel_rfl) Tryd.underlying69 Tryd.sizeOf64 (by omega)) ?_
      refine D_held (.slice (some ⟨ids.getD k 0, 0, none⟩) (n + 1) (n + 1)) (by kernel_rfl) (ldF1 (v := .slice (some ⟨ids.getD k 0, 0, none⟩) (n + 1) (n + 1)) (fo_len (n + 1)) ids 0 k (0 + k * 1) 0 o 64 rfl (by kernel_rfl) (by omega) (by omega) rfl Tryd.isAgg64 (by kernel_rfl)) ?_
      refine D_val (.pointer (some ⟨o, 0 + k * 1, none⟩)) (by kernel_rfl) (ixS (k := .i64) o 0 n n 1 k rfl (by kernel_rfl) (by kernel_rfl) Tryd.underlying69 Tryd.sizeOf64 (by omega)) ?_
      refine D_do (by kernel_rfl) (stF1 (f := (fo (n + 1))) (L' := [⟨o, ((ids.set k (ids.getD p 0)).flatMap (fo (n + 1))), 64⟩] ++ mat ids R ++ rest) (fo_len (n + 1)) rfl ids (ids.getD p 0) k (0 + k * 1) 0 o 64 rfl (by kernel_rfl) (by kernel_rfl) rfl (by omega) (by omega) Tryd.sizeOf64 (by kernel_rfl) (by kernel_rfl)) ?_
      refine D_val (.pointer (some ⟨o, 0 + p * 1, none⟩)) (by kernel_rfl) (ixS (k := .i64) o 0 n n 1 p rfl (by kernel_rfl) (by kernel_rfl) Tryd.underlying69 Tryd.sizeOf64 (by omega)) ?_
      refine D_do (by kernel_rfl) (stF1 (f := (fo (n + 1))) (L' := [⟨o, (((ids.set k (ids.getD p 0)).set p (ids.getD k 0)).flatMap (fo (n + 1))), 64⟩] ++ mat ids R ++ rest) (fo_len (n + 1)) rfl (ids.set k (ids.getD p 0)) (ids.getD k 0) p (0 + p * 1) 0 o 64 rfl (by kernel_rfl) (by kernel_rfl) rfl (by omega) (by rw [List.length_set]; omega) Tryd.sizeOf64 (by kernel_rfl) (by kernel_rfl)) ?_
      refine D_nil ?_
      obtain ⟨ids', hids⟩ : ∃ x, x = swp ids k p 0 := ⟨_, rfl⟩
      obtain ⟨Q1, hQ1⟩ : ∃ x, x = swp R k p [] := ⟨_, rfl⟩
      have hQs : Sq n Q1 := by subst hQ1; exact hR.swp hk hpn
      have hid1 : ids'.length = n := by subst hids; rw [swp_length]; exact hid
      have hl1 : ids'.length = Q1.length := hid1.trans hQs.1.symm
      refine E_weak (L' := [⟨o, (ids'.flatMap (fo (n + 1))), 64⟩] ++ mat ids' Q1 ++ rest) (fun w hw => by subst hids hQ1; exact own_swap [⟨o, ((ids.set k (ids.getD p 0)).set p (ids.getD k 0)).flatMap (fo (n + 1)), 64⟩] rest hl (by rw [hR.1]; exact hk) (by rw [hR.1]; exact hpn) hw) ?_
      refine E_then ?_
      refine C_seq ?_
      refine C_region ?_
      refine S_val (.slice (some ⟨o, 0, none⟩) n n) (by kernel_rfl) (fun _ _ => by kernel_rfl) ?_
      refine S_val (.int .i64 ((k : Nat) : Int)) (by kernel_rfl) (fun _ _ => by kernel_rfl) ?_
      refine S_val (.pointer (some ⟨o, 0 + k * 1, none⟩)) (by kernel_rfl) (fun w _ => (ixS (k := .i64) o 0 n n 1 k rfl (by kernel_rfl) (by kernel_rfl) Tryd.underlying69 Tryd.sizeOf64 (by omega)) w) ?_
      refine S_val (.slice (some ⟨ids'.getD k 0, 0, none⟩) (n + 1) (n + 1)) (by kernel_rfl) (ldF1 (v := .slice (some ⟨ids'.getD k 0, 0, none⟩) (n + 1) (n + 1)) (fo_len (n + 1)) ids' 0 k (0 + k * 1) 0 o 64 rfl (by kernel_rfl) (by omega) (by omega) rfl Tryd.isAgg64 (by kernel_rfl)) ?_
      refine S_val (.int .i64 ((k : Nat) : Int)) (by kernel_rfl) (fun _ _ => by kernel_rfl) ?_
      refine S_val (.pointer (some ⟨ids'.getD k 0, 0 + k * 1, none⟩)) (by kernel_rfl) (fun w _ => (ixS (k := .i64) (ids'.getD k 0) 0 (n + 1) (n + 1) 1 k rfl (by kernel_rfl) (by kernel_rfl) Tryd.underlying64 Tryd.sizeOf68 (by omega)) w) ?_
      refine S_val (.agg #[.int .i64 ((Q1.getD k []).getD k 0)]) (by kernel_rfl) (ldF f7_len (Q1.getD k []) 0 k (0 + k * 1) (1 + k) (ids'.getD k 0) 68 rfl (by kernel_rfl) (by omega) (by rw [hQs.2 _ (by omega)]; omega) Tryd.isAgg68 Tryd.sizeOf68 (mat_at [⟨o, (ids'.flatMap (fo (n + 1))), 64⟩] rest hl1 (by rw [hQs.1]; omega))) ?_
      refine S_val (.iface 68 (.agg #[.int .i64 ((Q1.getD k []).getD k 0)])) (by kernel_rfl) (fun _ _ => by kernel_rfl) ?_
      refine S_pure (v := .agg #[.int .i64 (iv ((Q1.getD k []).getD k 0))]) (by kernel_rfl) (c_inv ((Q1.getD k []).getD k 0)) (fun _ => by kernel_rfl) ?_
      refine S_newv (fun nb0 => .pointer (some ⟨nb0, 0, none⟩)) [.int .i64 0] 68 (by kernel_rfl) (fun w _ => by kernel_rfl) ?_
      intro b2 hb2 Hb2
      refine S_do (by kernel_rfl) (stN (L' := [⟨b2, [.int .i64 (iv ((Q1.getD k []).getD k 0))], 68⟩, ⟨o, (ids'.flatMap (fo (n + 1))), 64⟩] ++ mat ids' Q1 ++ rest) [.int .i64 (iv ((Q1.getD k []).getD k 0))] 0 b2 0 [.int .i64 0] 68 rfl (by kernel_rfl) (by kernel_rfl) Tryd.sizeOf68 (by simp [Value.oneCell']) (by kernel_rfl) (by simp) (by kernel_rfl)) ?_
      refine S_nil ?_
      refine E_then ?_
      refine C_seq ?_
      refine C_seq ?_
      refine C_region ?_
      refine S_val (.slice (some ⟨o, 0, none⟩) n n) (by kernel_rfl) (fun _ _ => by kernel_rfl) ?_
      refine S_val (.int .i64 ((k : Nat) : Int)) (by kernel_rfl) (fun _ _ => by kernel_rfl) ?_
      refine S_val (.pointer (some ⟨o, 0 + k * 1, none⟩)) (by kernel_rfl) (fun w _ => (ixS (k := .i64) o 0 n n 1 k rfl (by kernel_rfl) (by kernel_rfl) Tryd.underlying69 Tryd.sizeOf64 (by omega)) w) ?_
      refine S_val (.slice (some ⟨ids'.getD k 0, 0, none⟩) (n + 1) (n + 1)) (by kernel_rfl) (ldF1 (v := .slice (some ⟨ids'.getD k 0, 0, none⟩) (n + 1) (n + 1)) (fo_len (n + 1)) ids' 0 k (0 + k * 1) 1 o 64 rfl (by kernel_rfl) (by omega) (by omega) rfl Tryd.isAgg64 (by kernel_rfl)) ?_
      refine S_val (.int .i64 ((n + 1 : Nat) : Int)) (by kernel_rfl) (fun _ _ => by kernel_rfl) ?_
      refine S_val (.int .i64 0) (by kernel_rfl) (fun _ _ => by kernel_rfl) ?_
      refine S_nil ?_
      refine E_then ?_
      refine C_block ?_
      refine C_loop1 (fun (j : Nat) => (j ≤ n + 1)) (fun (j : Nat) => fun g => ⟨#[.slice (some ⟨o, 0, none⟩) n n, .int .i64 ((k : Nat) : Int), g 2, g 3, g 4, .pointer (some ⟨b2, 0, none⟩), g 6, g 7, g 8, g 9, g 10, g 11, g 12, g 13, g 14, g 15, g 16, g 17, g 18, g 19, g 20, g 21, g 22, g 23, g 24, g 25, g 26, g 27, g 28, g 29, g 30, g 31, g 32, g 33, g 34, g 35, g 36, g 37, g 38, g 39, g 40, g 41, g 42, g 43, g 44, g 45, g 46, g 47, g 48, g 49, g 50, g 51, g 52, g 53, g 54, g 55, g 56, g 57, g 58, g 59, g 60, g 61, .int .i64 ((n + 1 : Nat) : Int), .int .i64 ((j : Nat) : Int), g 64, g 65, g 66, g 67, g 68, g 69, g 70, g 71, g 72, g 73, g 74, g 75, g 76, g 77, g 78, g 79, g 80, g 81, g 82, g 83, g 84, g 85, g 86, g 87, g 88, g 89, g 90, g 91, g 92, g 93, g 94, g 95, g 96, g 97, g 98, g 99, g 100, g 101, g 102, g 103, g 104, g 105, g 106, g 107, g 108, g 109, g 110, g 111, g 112, g 113, g 114, g 115, g 116, g 117, g 118, g 119, g 120, g 121, g 122, g 123, g 124, g 125, g 126, g 127, g 128, g 129, g 130], []⟩) (fun (j : Nat) => [⟨b2, [.int .i64 (iv ((Q1.getD k []).getD k 0))], 68⟩, ⟨o, (ids'.flatMap (fo (n + 1))), 64⟩] ++ mat ids' (Q1.set k (sc (Q1.getD k []) (iv ((Q1.getD k []).getD k 0)) j)) ++ rest) (fun (j : Nat) => n + 1 - j) 0 (by (try dsimp only); exact Nat.zero_le _) (by kernel_rfl) (by first | (dsimp only; done) | ((try dsimp only); simp only [sc, gset_self])) ?_
      rintro j g3 hj
      refine C_seq ?_
      refine C_region ?_
      refine S_val (.bool (decide (((j : Nat) : Int) < ((n + 1 : Nat) : Int)))) (by kernel_rfl) (fun _ _ => by kernel_rfl) ?_
      refine S_nil ?_
      refine E_then ?_
      refine C_seq ?_
      refine C_if (decide (((j : Nat) : Int) < ((n + 1 : Nat) : Int))) (by kernel_rfl) (fun hc => ?_) (fun hc => ?_)
      · replace hc := of_decide_eq_true hc
        refine C_skip ?_
        refine E_then ?_
        refine C_seq ?_
        refine C_block ?_
        refine C_seq ?_
        refine C_region ?_
        refine S_val (.int .i64 ((j : Nat) : Int)) (by kernel_rfl) (fun _ _ => by kernel_rfl) ?_
        refine S_val (.int .i64 ((j : Nat) : Int)) (by kernel_rfl) (fun _ _ => by kernel_rfl) ?_
        refine S_nil ?_
        refine E_then ?_
        refine C_drawn [.pure, .pure, .pure, .held, .pure, .pure, .pure, .pure, .held, .pure, .pure, .held, .pure, .held, .held, .pure, .eff] (by kernel_rfl) (by kernel_rfl) ?_
        refine D_val (.slice (some ⟨o, 0, none⟩) n n) (by kernel_rfl) (fun _ => by kernel_rfl) ?_
        refine D_val (.int .i64 ((k : Nat) : Int)) (by kernel_rfl) (fun _ => by kernel_rfl) ?_
        refine D_val (.pointer (some ⟨o, 0 + k * 1, none⟩)) (by kernel_rfl) (ixS (k := .i64) o 0 n n 1 k rfl (by kernel_rfl) (by kernel_rfl) Tryd.underlying69 Tryd.sizeOf64 (by omega)) ?_
        refine D_held (.slice (some ⟨ids'.getD k 0, 0, none⟩) (n + 1) (n + 1)) (by kernel_rfl) (ldF1 (v := .slice (some ⟨ids'.getD k 0, 0, none⟩) (n + 1) (n + 1)) (fo_len (n + 1)) ids' 0 k (0 + k * 1) 1 o 64 rfl (by kernel_rfl) (by omega) (by omega) rfl Tryd.isAgg64 (by kernel_rfl)) ?_
        refine D_val (.int .i64 ((j : Nat) : Int)) (by kernel_rfl) (fun _ => by kernel_rfl) ?_
        refine D_val (.slice (some ⟨o, 0, none⟩) n n) (by kernel_rfl) (fun _ => by kernel_rfl) ?_
        refine D_val (.int .i64 ((k : Nat) : Int)) (by kernel_rfl) (fun _ => by kernel_rfl) ?_
        refine D_val (.pointer (some ⟨o, 0 + k * 1, none⟩)) (by kernel_rfl) (ixS (k := .i64) o 0 n n 1 k rfl (by kernel_rfl) (by kernel_rfl) Tryd.underlying69 Tryd.sizeOf64 (by omega)) ?_
        refine D_held (.slice (some ⟨ids'.getD k 0, 0, none⟩) (n + 1) (n + 1)) (by kernel_rfl) (ldF1 (v := .slice (some ⟨ids'.getD k 0, 0, none⟩) (n + 1) (n + 1)) (fo_len (n + 1)) ids' 0 k (0 + k * 1) 1 o 64 rfl (by kernel_rfl) (by omega) (by omega) rfl Tryd.isAgg64 (by kernel_rfl)) ?_
        refine D_val (.int .i64 ((j : Nat) : Int)) (by kernel_rfl) (fun _ => by kernel_rfl) ?_
        refine D_val (.pointer (some ⟨ids'.getD k 0, 0 + j * 1, none⟩)) (by kernel_rfl) (ixS (k := .i64) (ids'.getD k 0) 0 (n + 1) (n + 1) 1 j rfl (by kernel_rfl) (by kernel_rfl) Tryd.underlying64 Tryd.sizeOf68 (by omega)) ?_
        refine D_held (.agg #[.int .i64 ((sc (Q1.getD k []) (iv ((Q1.getD k []).getD k 0)) j).getD j 0)]) (by kernel_rfl) (ldF f7_len (sc (Q1.getD k []) (iv ((Q1.getD k []).getD k 0)) j) 0 j (0 + j * 1) (2 + k) (ids'.getD k 0) 68 rfl (by kernel_rfl) (by omega) (by rw [sc_length, hQs.2 _ (by omega)]; omega) Tryd.isAgg68 Tryd.sizeOf68 (mat_at_set [⟨b2, [.int .i64 (iv ((Q1.getD k []).getD k 0))], 68⟩, ⟨o, (ids'.flatMap (fo (n + 1))), 64⟩] rest (sc (Q1.getD k []) (iv ((Q1.getD k []).getD k 0)) j) hl1 (by rw [hQs.1]; omega))) ?_
        refine D_val (.iface 68 (.agg #[.int .i64 ((sc (Q1.getD k []) (iv ((Q1.getD k []).getD k 0)) j).getD j 0)])) (by kernel_rfl) (fun _ => by kernel_rfl) ?_
        refine D_held (.agg #[.int .i64 (iv ((Q1.getD k []).getD k 0))]) (by kernel_rfl) (ldN [.int .i64 (iv ((Q1.getD k []).getD k 0))] 0 b2 0 [.int .i64 (iv ((Q1.getD k []).getD k 0))] 68 rfl (by kernel_rfl) Tryd.isAgg68 Tryd.sizeOf68 (by kernel_rfl) (by kernel_rfl)) ?_
        refine D_pure (v := .agg #[.int .i64 (mu ((sc (Q1.getD k []) (iv ((Q1.getD k []).getD k 0)) j).getD j 0) (iv ((Q1.getD k []).getD k 0)))]) (by kernel_rfl) (c_mul ((sc (Q1.getD k []) (iv ((Q1.getD k []).getD k 0)) j).getD j 0) (iv ((Q1.getD k []).getD k 0))) (fun _ => by kernel_rfl) ?_
        refine D_val (.pointer (some ⟨ids'.getD k 0, 0 + j * 1, none⟩)) (by kernel_rfl) (ixS (k := .i64) (ids'.getD k 0) 0 (n + 1) (n + 1) 1 j rfl (by kernel_rfl) (by kernel_rfl) Tryd.underlying64 Tryd.sizeOf68 (by omega)) ?_
        refine D_do (by kernel_rfl) (stF (L' := [⟨b2, [.int .i64 (iv ((Q1.getD k []).getD k 0))], 68⟩, ⟨o, (ids'.flatMap (fo (n + 1))), 64⟩] ++ mat ids' (Q1.set k ((sc (Q1.getD k []) (iv ((Q1.getD k []).getD k 0)) j).set j (mu ((sc (Q1.getD k []) (iv ((Q1.getD k []).getD k 0)) j).getD j 0) (iv ((Q1.getD k []).getD k 0))))) ++ rest) f7_len f7_one (sc (Q1.getD k []) (iv ((Q1.getD k []).getD k 0)) j) (mu ((sc (Q1.getD k []) (iv ((Q1.getD k []).getD k 0)) j).getD j 0) (iv ((Q1.getD k []).getD k 0))) j (0 + j * 1) (2 + k) (ids'.getD k 0) 68 rfl (by kernel_rfl) (by kernel_rfl) (by omega) (by rw [sc_length, hQs.2 _ (by omega)]; omega) Tryd.sizeOf68 (mat_at_set [⟨b2, [.int .i64 (iv ((Q1.getD k []).getD k 0))], 68⟩, ⟨o, (ids'.flatMap (fo (n + 1))), 64⟩] rest (sc (Q1.getD k []) (iv ((Q1.getD k []).getD k 0)) j) hl1 (by rw [hQs.1]; omega)) (mat_put [⟨b2, [.int .i64 (iv ((Q1.getD k []).getD k 0))], 68⟩, ⟨o, (ids'.flatMap (fo (n + 1))), 64⟩] rest (sc (Q1.getD k []) (iv ((Q1.getD k []).getD k 0)) j) _ hl1 (by rw [hQs.1]; omega))) ?_
        refine D_nil ?_
        refine E_inblock ?_
        refine E_then ?_
        refine C_region ?_
        refine S_val (.int .i64 ((j + 1 : Nat) : Int)) (by kernel_rfl) (fun _ _ => fv (v := .int .i64 (IntKind.i64.wrap (((j : Nat) : Int) + 1))) (vint (w64 (by omega) (by omega) (by omega))) (by kernel_rfl)) ?_
        refine S_val (.int .i64 ((j + 1 : Nat) : Int)) (by kernel_rfl) (fun _ _ => by kernel_rfl) ?_
        refine S_nil ?_
        exact E_norm (fun w hw => ⟨j + 1, by omega, (by kernel_rfl), (by (try dsimp only); omega), hw⟩)
      · replace hc := of_decide_eq_false hc
        obtain rfl : j = n + 1 := by omega
        obtain ⟨Q, hQ⟩ : ∃ x, x = scl n Q1 k := ⟨_, rfl⟩
        have hQq : Sq n Q := by subst hQ; exact hQs.scl hk
        refine C_weak (L' := [⟨b2, [.int .i64 (iv ((Q1.getD k []).getD k 0))], 68⟩, ⟨o, (ids'.flatMap (fo (n + 1))), 64⟩] ++ mat ids' Q ++ rest) (fun w hw => by subst hQ; exact hw) ?_
        refine C_exit ?_
        refine E_pass_exit ?_
        refine E_pass_exit ?_
        refine E_outblock ?_
        refine E_then ?_
        refine C_seq ?_
        refine C_region ?_
        refine S_val (.slice (some ⟨o, 0, none⟩) n n) (by kernel_rfl) (fun _ _ => by kernel_rfl) ?_
        refine S_val (.int .i64 ((n : Nat) : Int)) (by kernel_rfl) (fun _ _ => by kernel_rfl) ?_
        refine S_val (.int .i64 0) (by kernel_rfl) (fun _ _ => by kernel_rfl) ?_
        refine S_nil ?_
        refine E_then ?_
        refine C_block ?_
        refine C_loop1 (fun (i : Nat) => (i ≤ n)) (fun (i : Nat) => fun g => ⟨#[.slice (some ⟨o, 0, none⟩) n n, .int .i64 ((k : Nat) : Int), g 2, g 3, g 4, g 5, g 6, g 7, g 8, g 9, g 10, g 11, g 12, g 13, g 14, g 15, g 16, g 17, g 18, g 19, g 20, g 21, g 22, g 23, g 24, g 25, g 26, g 27, g 28, g 29, g 30, g 31, g 32, g 33, g 34, g 35, g 36, g 37, g 38, g 39, g 40, g 41, g 42, g 43, g 44, g 45, g 46, g 47, g 48, g 49, g 50, g 51, g 52, g 53, g 54, g 55, g 56, g 57, g 58, g 59, g 60, g 61, g 62, g 63, g 64, g 65, g 66, g 67, g 68, g 69, g 70, g 71, g 72, g 73, g 74, g 75, g 76, g 77, g 78, g 79, g 80, g 81, g 82, .slice (some ⟨o, 0, none⟩) n n, .int .i64 ((n : Nat) : Int), .int .i64 ((i : Nat) : Int), g 86, g 87, g 88, g 89, g 90, g 91, g 92, g 93, g 94, g 95, g 96, g 97, g 98, g 99, g 100, g 101, g 102, g 103, g 104, g 105, g 106, g 107, g 108, g 109, g 110, g 111, g 112, g 113, g 114, g 115, g 116, g 117, g 118, g 119, g 120, g 121, g 122, g 123, g 124, g 125, g 126, g 127, g 128, g 129, g 130], []⟩) (fun (i : Nat) => [⟨b2, [.int .i64 (iv ((Q1.getD k []).getD k 0))], 68⟩, ⟨o, (ids'.flatMap (fo (n + 1))), 64⟩] ++ mat ids' (em n Q k i) ++ rest) (fun (i : Nat) => n - i) 0 (by (try dsimp only); exact Nat.zero_le _) (by kernel_rfl) (by first | (dsimp only; done) | ((try dsimp only); kernel_rfl)) ?_
        rintro i g4 hi
        have hT : Sq n (em n Q k i) := hQq.em k i hi
        refine C_seq ?_
        refine C_region ?_
        refine S_val (.bool (decide (((i : Nat) : Int) < ((n : Nat) : Int)))) (by kernel_rfl) (fun _ _ => by kernel_rfl) ?_
        refine S_nil ?_
        refine E_then ?_
        refine C_seq ?_
        refine C_if (decide (((i : Nat) : Int) < ((n : Nat) : Int))) (by kernel_rfl) (fun hc4 => ?_) (fun hc4 => ?_)
        · replace hc4 := of_decide_eq_true hc4
          refine C_skip ?_
          refine E_then ?_
          refine C_seq ?_
          refine C_block ?_
          refine C_seq ?_
          refine C_region ?_
          refine S_val (.int .i64 ((i : Nat) : Int)) (by kernel_rfl) (fun _ _ => by kernel_rfl) ?_
          refine S_val (.pointer (some ⟨o, 0 + i * 1, none⟩)) (by kernel_rfl) (fun w _ => (ixS (k := .i64) o 0 n n 1 i rfl (by kernel_rfl) (by kernel_rfl) Tryd.underlying69 Tryd.sizeOf64 (by omega)) w) ?_
          refine S_val (.slice (some ⟨ids'.getD i 0, 0, none⟩) (n + 1) (n + 1)) (by kernel_rfl) (ldF1 (v := .slice (some ⟨ids'.getD i 0, 0, none⟩) (n + 1) (n + 1)) (fo_len (n + 1)) ids' 0 i (0 + i * 1) 1 o 64 rfl (by kernel_rfl) (by omega) (by omega) rfl Tryd.isAgg64 (by kernel_rfl)) ?_
          refine S_val (.int .i64 ((i : Nat) : Int)) (by kernel_rfl) (fun _ _ => by kernel_rfl) ?_
          refine S_val (.slice (some ⟨ids'.getD i 0, 0, none⟩) (n + 1) (n + 1)) (by kernel_rfl) (fun _ _ => by kernel_rfl) ?_
          refine S_nil ?_
          refine E_then ?_
          refine C_seq ?_
          refine C_seq ?_
          by_cases hik : i = k
          · refine C_region ?_
            refine S_val (.int .i64 ((i : Nat) : Int)) (by kernel_rfl) (fun _ _ => by kernel_rfl) ?_
            refine S_val (.int .i64 ((k : Nat) : Int)) (by kernel_rfl) (fun _ _ => by kernel_rfl) ?_
            refine S_val (.bool true) (by kernel_rfl) (fun _ _ => fv (v := .bool (((i : Nat) : Int) == ((k : Nat) : Int))) (vbool (beq_iff_eq.2 (by omega))) (by kernel_rfl)) ?_
            refine S_val (.bool true) (by kernel_rfl) (fun _ _ => by kernel_rfl) ?_
            refine S_not (by kernel_rfl) ?_
            refine S_not (by kernel_rfl) ?_
            refine S_not (by kernel_rfl) ?_
            refine S_not (by kernel_rfl) ?_
            refine S_not (by kernel_rfl) ?_
            refine S_not (by kernel_rfl) ?_
            refine S_val (.bool true) (by kernel_rfl) (fun _ _ => by kernel_rfl) ?_
            refine S_nil ?_
            refine E_then ?_
            refine C_true (by kernel_rfl) ?_
            refine C_exit ?_
            refine E_pass_exit ?_
            refine E_outblock ?_
            refine E_then ?_
            refine C_region ?_
            refine S_val (.int .i64 ((i + 1 : Nat) : Int)) (by kernel_rfl) (fun _ _ => fv (v := .int .i64 (IntKind.i64.wrap (((i : Nat) : Int) + 1))) (vint (w64 (by omega) (by omega) (by omega))) (by kernel_rfl)) ?_
            refine S_val (.int .i64 ((i + 1 : Nat) : Int)) (by kernel_rfl) (fun _ _ => by kernel_rfl) ?_
            refine S_nil ?_
            exact E_norm (fun w hw => ⟨i + 1, by omega, (by kernel_rfl), (by (try dsimp only); omega), Own.eq hw (by (try dsimp only); rw [em_k hik])⟩)
          · refine C_region ?_
            refine S_val (.int .i64 ((i : Nat) : Int)) (by kernel_rfl) (fun _ _ => by kernel_rfl) ?_
            refine S_val (.int .i64 ((k : Nat) : Int)) (by kernel_rfl) (fun _ _ => by kernel_rfl) ?_
            refine S_val (.bool false) (by kernel_rfl) (fun _ _ => fv (v := .bool (((i : Nat) : Int) == ((k : Nat) : Int))) (vbool (beq_eq_false_iff_ne.2 (by omega))) (by kernel_rfl)) ?_
            refine S_val (.bool false) (by kernel_rfl) (fun _ _ => by kernel_rfl) ?_
            refine S_val (.slice (some ⟨ids'.getD i 0, 0, none⟩) (n + 1) (n + 1)) (by kernel_rfl) (fun _ _ => by kernel_rfl) ?_
            refine S_val (.int .i64 ((k : Nat) : Int)) (by kernel_rfl) (fun _ _ => by kernel_rfl) ?_
            refine S_val (.pointer (some ⟨ids'.getD i 0, 0 + k * 1, none⟩)) (by kernel_rfl) (fun w _ => (ixS (k := .i64) (ids'.getD i 0) 0 (n + 1) (n + 1) 1 k rfl (by kernel_rfl) (by kernel_rfl) Tryd.underlying64 Tryd.sizeOf68 (by omega)) w) ?_
            refine S_val (.agg #[.int .i64 (((em n Q k i).getD i []).getD k 0)]) (by kernel_rfl) (ldF f7_len ((em n Q k i).getD i []) 0 k (0 + k * 1) (2 + i) (ids'.getD i 0) 68 rfl (by kernel_rfl) (by omega) (by rw [hT.2 _ (by omega)]; omega) Tryd.isAgg68 Tryd.sizeOf68 (mat_at [⟨b2, [.int .i64 (iv ((Q1.getD k []).getD k 0))], 68⟩, ⟨o, (ids'.flatMap (fo (n + 1))), 64⟩] rest (hid1.trans hT.1.symm) (by rw [hT.1]; omega))) ?_
            refine S_val (.iface 68 (.agg #[.int .i64 (((em n Q k i).getD i []).getD k 0)])) (by kernel_rfl) (fun _ _ => by kernel_rfl) ?_
            refine S_pure (v := .bool ((((em n Q k i).getD i []).getD k 0) % 7 == 0)) (by kernel_rfl) (c_isZero (((em n Q k i).getD i []).getD k 0)) (fun _ => by kernel_rfl) ?_
            refine S_val (.bool ((((em n Q k i).getD i []).getD k 0) % 7 == 0)) (by kernel_rfl) (fun _ _ => by kernel_rfl) ?_
            refine S_nil ?_
            refine E_then ?_
            refine C_if ((((em n Q k i).getD i []).getD k 0) % 7 == 0) (by kernel_rfl) (fun hz => ?_) (fun hz => ?_)
            · replace hz := eq_of_beq hz
              refine C_exit ?_
              refine E_pass_exit ?_
              refine E_outblock ?_
              refine E_then ?_
              refine C_region ?_
              refine S_val (.int .i64 ((i + 1 : Nat) : Int)) (by kernel_rfl) (fun _ _ => fv (v := .int .i64 (IntKind.i64.wrap (((i : Nat) : Int) + 1))) (vint (w64 (by omega) (by omega) (by omega))) (by kernel_rfl)) ?_
              refine S_val (.int .i64 ((i + 1 : Nat) : Int)) (by kernel_rfl) (fun _ _ => by kernel_rfl) ?_
              refine S_nil ?_
              exact E_norm (fun w hw => ⟨i + 1, by omega, (by kernel_rfl), (by (try dsimp only); omega), Own.eq hw (by (try dsimp only); rw [em_z hz])⟩)
            · replace hz := ne_of_beq_false hz
              refine C_skip ?_
              refine E_then ?_
              refine C_seq ?_
              refine C_region ?_
              refine S_val (.slice (some ⟨ids'.getD i 0, 0, none⟩) (n + 1) (n + 1)) (by kernel_rfl) (fun _ _ => by kernel_rfl) ?_
              refine S_val (.int .i64 ((k : Nat) : Int)) (by kernel_rfl) (fun _ _ => by kernel_rfl) ?_
              refine S_val (.pointer (some ⟨ids'.getD i 0, 0 + k * 1, none⟩)) (by kernel_rfl) (fun w _ => (ixS (k := .i64) (ids'.getD i 0) 0 (n + 1) (n + 1) 1 k rfl (by kernel_rfl) (by kernel_rfl) Tryd.underlying64 Tryd.sizeOf68 (by omega)) w) ?_
              refine S_val (.agg #[.int .i64 (((em n Q k i).getD i []).getD k 0)]) (by kernel_rfl) (ldF f7_len ((em n Q k i).getD i []) 0 k (0 + k * 1) (2 + i) (ids'.getD i 0) 68 rfl (by kernel_rfl) (by omega) (by rw [hT.2 _ (by omega)]; omega) Tryd.isAgg68 Tryd.sizeOf68 (mat_at [⟨b2, [.int .i64 (iv ((Q1.getD k []).getD k 0))], 68⟩, ⟨o, (ids'.flatMap (fo (n + 1))), 64⟩] rest (hid1.trans hT.1.symm) (by rw [hT.1]; omega))) ?_
              refine S_newv (fun nb0 => .pointer (some ⟨nb0, 0, none⟩)) [.int .i64 0] 68 (by kernel_rfl) (fun w _ => by kernel_rfl) ?_
              intro b5 hb5 Hb5
              refine S_do (by kernel_rfl) (stN (L' := [⟨b5, [.int .i64 (((em n Q k i).getD i []).getD k 0)], 68⟩, ⟨b2, [.int .i64 (iv ((Q1.getD k []).getD k 0))], 68⟩, ⟨o, (ids'.flatMap (fo (n + 1))), 64⟩] ++ mat ids' (em n Q k i) ++ rest) [.int .i64 (((em n Q k i).getD i []).getD k 0)] 0 b5 0 [.int .i64 0] 68 rfl (by kernel_rfl) (by kernel_rfl) Tryd.sizeOf68 (by simp [Value.oneCell']) (by kernel_rfl) (by simp) (by kernel_rfl)) ?_
              refine S_nil ?_
              refine E_then ?_
              refine C_seq ?_
              refine C_region ?_
              refine S_val (.slice (some ⟨ids'.getD i 0, 0, none⟩) (n + 1) (n + 1)) (by kernel_rfl) (fun _ _ => by kernel_rfl) ?_
              refine S_val (.int .i64 ((n + 1 : Nat) : Int)) (by kernel_rfl) (fun _ _ => by kernel_rfl) ?_
              refine S_val (.int .i64 0) (by kernel_rfl) (fun _ _ => by kernel_rfl) ?_
              refine S_nil ?_
              refine E_then ?_
              refine C_block ?_
              refine C_loop1 (fun (jj : Nat) => (jj ≤ n + 1)) (fun (jj : Nat) => fun g => ⟨#[.slice (some ⟨o, 0, none⟩) n n, .int .i64 ((k : Nat) : Int), g 2, g 3, g 4, g 5, g 6, g 7, .slice (some ⟨ids'.getD i 0, 0, none⟩) (n + 1) (n + 1), .pointer (some ⟨b5, 0, none⟩), g 10, g 11, g 12, g 13, g 14, g 15, g 16, g 17, g 18, g 19, g 20, g 21, g 22, g 23, g 24, g 25, g 26, g 27, g 28, g 29, g 30, g 31, g 32, g 33, g 34, g 35, g 36, g 37, g 38, g 39, g 40, g 41, g 42, g 43, g 44, g 45, g 46, g 47, g 48, g 49, g 50, g 51, g 52, g 53, g 54, g 55, g 56, g 57, g 58, g 59, g 60, g 61, g 62, g 63, g 64, g 65, g 66, g 67, g 68, g 69, g 70, g 71, g 72, g 73, g 74, g 75, g 76, g 77, g 78, g 79, g 80, g 81, g 82, .slice (some ⟨o, 0, none⟩) n n, .int .i64 ((n : Nat) : Int), .int .i64 ((i : Nat) : Int), g 86, g 87, g 88, g 89, g 90, g 91, g 92, g 93, g 94, g 95, g 96, g 97, g 98, g 99, g 100, g 101, g 102, g 103, g 104, g 105, .int .i64 ((n + 1 : Nat) : Int), .int .i64 ((jj : Nat) : Int), g 108, g 109, g 110, g 111, g 112, g 113, g 114, g 115, g 116, g 117, g 118, g 119, g 120, g 121, g 122, g 123, g 124, g 125, g 126, g 127, g 128, g 129, g 130], []⟩) (fun (jj : Nat) => [⟨b5, [.int .i64 (((em n Q k i).getD i []).getD k 0)], 68⟩, ⟨b2, [.int .i64 (iv ((Q1.getD k []).getD k 0))], 68⟩, ⟨o, (ids'.flatMap (fo (n + 1))), 64⟩] ++ mat ids' ((em n Q k i).set i (el ((em n Q k i).getD i []) (((em n Q k i).getD i []).getD k 0) ((em n Q k i).getD k []) jj)) ++ rest) (fun (jj : Nat) => n + 1 - jj) 0 (by (try dsimp only); exact Nat.zero_le _) (by kernel_rfl) (by first | (dsimp only; done) | ((try dsimp only); simp only [el, gset_self])) ?_
              rintro jj g6 hjj
              refine C_seq ?_
              refine C_region ?_
              refine S_val (.bool (decide (((jj : Nat) : Int) < ((n + 1 : Nat) : Int)))) (by kernel_rfl) (fun _ _ => by kernel_rfl) ?_
              refine S_nil ?_
              refine E_then ?_
              refine C_seq ?_
              refine C_if (decide (((jj : Nat) : Int) < ((n + 1 : Nat) : Int))) (by kernel_rfl) (fun hc6 => ?_) (fun hc6 => ?_)
              · replace hc6 := of_decide_eq_true hc6
                refine C_skip ?_
                refine E_then ?_
                refine C_seq ?_
                refine C_block ?_
                refine C_seq ?_
                refine C_region ?_
                refine S_val (.int .i64 ((jj : Nat) : Int)) (by kernel_rfl) (fun _ _ => by kernel_rfl) ?_
                refine S_val (.int .i64 ((jj : Nat) : Int)) (by kernel_rfl) (fun _ _ => by kernel_rfl) ?_
                refine S_nil ?_
                refine E_then ?_
                refine C_drawn [.pure, .pure, .pure, .pure, .pure, .held, .pure, .held, .pure, .pure, .pure, .pure, .held, .pure, .pure, .held, .held, .held, .pure, .eff] (by kernel_rfl) (by kernel_rfl) ?_
                refine D_val (.slice (some ⟨ids'.getD i 0, 0, none⟩) (n + 1) (n + 1)) (by kernel_rfl) (fun _ => by kernel_rfl) ?_
                refine D_val (.int .i64 ((jj : Nat) : Int)) (by kernel_rfl) (fun _ => by kernel_rfl) ?_
                refine D_val (.slice (some ⟨ids'.getD i 0, 0, none⟩) (n + 1) (n + 1)) (by kernel_rfl) (fun _ => by kernel_rfl) ?_
                refine D_val (.int .i64 ((jj : Nat) : Int)) (by kernel_rfl) (fun _ => by kernel_rfl) ?_
                refine D_val (.pointer (some ⟨ids'.getD i 0, 0 + jj * 1, none⟩)) (by kernel_rfl) (ixS (k := .i64) (ids'.getD i 0) 0 (n + 1) (n + 1) 1 jj rfl (by kernel_rfl) (by kernel_rfl) Tryd.underlying64 Tryd.sizeOf68 (by omega)) ?_
                refine D_held (.agg #[.int .i64 ((el ((em n Q k i).getD i []) (((em n Q k i).getD i []).getD k 0) ((em n Q k i).getD k []) jj).getD jj 0)]) (by kernel_rfl) (ldF f7_len (el ((em n Q k i).getD i []) (((em n Q k i).getD i []).getD k 0) ((em n Q k i).getD k []) jj) 0 jj (0 + jj * 1) (3 + i) (ids'.getD i 0) 68 rfl (by kernel_rfl) (by omega) (by rw [el_length, hT.2 _ (by omega)]; omega) Tryd.isAgg68 Tryd.sizeOf68 (mat_at_set [⟨b5, [.int .i64 (((em n Q k i).getD i []).getD k 0)], 68⟩, ⟨b2, [.int .i64 (iv ((Q1.getD k []).getD k 0))], 68⟩, ⟨o, (ids'.flatMap (fo (n + 1))), 64⟩] rest (el ((em n Q k i).getD i []) (((em n Q k i).getD i []).getD k 0) ((em n Q k i).getD k []) jj) (hid1.trans hT.1.symm) (by rw [hT.1]; omega))) ?_
                refine D_val (.iface 68 (.agg #[.int .i64 ((el ((em n Q k i).getD i []) (((em n Q k i).getD i []).getD k 0) ((em n Q k i).getD k []) jj).getD jj 0)])) (by kernel_rfl) (fun _ => by kernel_rfl) ?_
                refine D_held (.agg #[.int .i64 (((em n Q k i).getD i []).getD k 0)]) (by kernel_rfl) (ldN [.int .i64 (((em n Q k i).getD i []).getD k 0)] 0 b5 0 [.int .i64 (((em n Q k i).getD i []).getD k 0)] 68 rfl (by kernel_rfl) Tryd.isAgg68 Tryd.sizeOf68 (by kernel_rfl) (by kernel_rfl)) ?_
                refine D_val (.iface 68 (.agg #[.int .i64 (((em n Q k i).getD i []).getD k 0)])) (by kernel_rfl) (fun _ => by kernel_rfl) ?_
                refine D_val (.slice (some ⟨o, 0, none⟩) n n) (by kernel_rfl) (fun _ => by kernel_rfl) ?_
                refine D_val (.int .i64 ((k : Nat) : Int)) (by kernel_rfl) (fun _ => by kernel_rfl) ?_
                refine D_val (.pointer (some ⟨o, 0 + k * 1, none⟩)) (by kernel_rfl) (ixS (k := .i64) o 0 n n 1 k rfl (by kernel_rfl) (by kernel_rfl) Tryd.underlying69 Tryd.sizeOf64 (by omega)) ?_
                refine D_held (.slice (some ⟨ids'.getD k 0, 0, none⟩) (n + 1) (n + 1)) (by kernel_rfl) (ldF1 (v := .slice (some ⟨ids'.getD k 0, 0, none⟩) (n + 1) (n + 1)) (fo_len (n + 1)) ids' 0 k (0 + k * 1) 2 o 64 rfl (by kernel_rfl) (by omega) (by omega) rfl Tryd.isAgg64 (by kernel_rfl)) ?_
                refine D_val (.int .i64 ((jj : Nat) : Int)) (by kernel_rfl) (fun _ => by kernel_rfl) ?_
                refine D_val (.pointer (some ⟨ids'.getD k 0, 0 + jj * 1, none⟩)) (by kernel_rfl) (ixS (k := .i64) (ids'.getD k 0) 0 (n + 1) (n + 1) 1 jj rfl (by kernel_rfl) (by kernel_rfl) Tryd.underlying64 Tryd.sizeOf68 (by omega)) ?_
                refine D_held (.agg #[.int .i64 (((em n Q k i).getD k []).getD jj 0)]) (by kernel_rfl) (ldF f7_len ((em n Q k i).getD k []) 0 jj (0 + jj * 1) (3 + k) (ids'.getD k 0) 68 rfl (by kernel_rfl) (by omega) (by rw [hT.2 _ (by omega)]; omega) Tryd.isAgg68 Tryd.sizeOf68 (mat_at_ne [⟨b5, [.int .i64 (((em n Q k i).getD i []).getD k 0)], 68⟩, ⟨b2, [.int .i64 (iv ((Q1.getD k []).getD k 0))], 68⟩, ⟨o, (ids'.flatMap (fo (n + 1))), 64⟩] rest (el ((em n Q k i).getD i []) (((em n Q k i).getD i []).getD k 0) ((em n Q k i).getD k []) jj) (hid1.trans hT.1.symm) (by rw [hT.1]; omega) hik)) ?_
                refine D_pure (v := .agg #[.int .i64 (mu (((em n Q k i).getD i []).getD k 0) (((em n Q k i).getD k []).getD jj 0))]) (by kernel_rfl) (c_mul (((em n Q k i).getD i []).getD k 0) (((em n Q k i).getD k []).getD jj 0)) (fun _ => by kernel_rfl) ?_
                refine D_pure (v := .agg #[.int .i64 (su ((el ((em n Q k i).getD i []) (((em n Q k i).getD i []).getD k 0) ((em n Q k i).getD k []) jj).getD jj 0) (mu (((em n Q k i).getD i []).getD k 0) (((em n Q k i).getD k []).getD jj 0)))]) (by kernel_rfl) (c_sub ((el ((em n Q k i).getD i []) (((em n Q k i).getD i []).getD k 0) ((em n Q k i).getD k []) jj).getD jj 0) (mu (((em n Q k i).getD i []).getD k 0) (((em n Q k i).getD k []).getD jj 0))) (fun _ => by kernel_rfl) ?_
                refine D_val (.pointer (some ⟨ids'.getD i 0, 0 + jj * 1, none⟩)) (by kernel_rfl) (ixS (k := .i64) (ids'.getD i 0) 0 (n + 1) (n + 1) 1 jj rfl (by kernel_rfl) (by kernel_rfl) Tryd.underlying64 Tryd.sizeOf68 (by omega)) ?_
                refine D_do (by kernel_rfl) (stF (L' := [⟨b5, [.int .i64 (((em n Q k i).getD i []).getD k 0)], 68⟩, ⟨b2, [.int .i64 (iv ((Q1.getD k []).getD k 0))], 68⟩, ⟨o, (ids'.flatMap (fo (n + 1))), 64⟩] ++ mat ids' ((em n Q k i).set i ((el ((em n Q k i).getD i []) (((em n Q k i).getD i []).getD k 0) ((em n Q k i).getD k []) jj).set jj (su ((el ((em n Q k i).getD i []) (((em n Q k i).getD i []).getD k 0) ((em n Q k i).getD k []) jj).getD jj 0) (mu (((em n Q k i).getD i []).getD k 0) (((em n Q k i).getD k []).getD jj 0))))) ++ rest) f7_len f7_one (el ((em n Q k i).getD i []) (((em n Q k i).getD i []).getD k 0) ((em n Q k i).getD k []) jj) (su ((el ((em n Q k i).getD i []) (((em n Q k i).getD i []).getD k 0) ((em n Q k i).getD k []) jj).getD jj 0) (mu (((em n Q k i).getD i []).getD k 0) (((em n Q k i).getD k []).getD jj 0))) jj (0 + jj * 1) (3 + i) (ids'.getD i 0) 68 rfl (by kernel_rfl) (by kernel_rfl) (by omega) (by rw [el_length, hT.2 _ (by omega)]; omega) Tryd.sizeOf68 (mat_at_set [⟨b5, [.int .i64 (((em n Q k i).getD i []).getD k 0)], 68⟩, ⟨b2, [.int .i64 (iv ((Q1.getD k []).getD k 0))], 68⟩, ⟨o, (ids'.flatMap (fo (n + 1))), 64⟩] rest (el ((em n Q k i).getD i []) (((em n Q k i).getD i []).getD k 0) ((em n Q k i).getD k []) jj) (hid1.trans hT.1.symm) (by rw [hT.1]; omega)) (mat_put [⟨b5, [.int .i64 (((em n Q k i).getD i []).getD k 0)], 68⟩, ⟨b2, [.int .i64 (iv ((Q1.getD k []).getD k 0))], 68⟩, ⟨o, (ids'.flatMap (fo (n + 1))), 64⟩] rest (el ((em n Q k i).getD i []) (((em n Q k i).getD i []).getD k 0) ((em n Q k i).getD k []) jj) _ (hid1.trans hT.1.symm) (by rw [hT.1]; omega))) ?_
                refine D_nil ?_
                refine E_inblock ?_
                refine E_then ?_
                refine C_region ?_
                refine S_val (.int .i64 ((jj + 1 : Nat) : Int)) (by kernel_rfl) (fun _ _ => fv (v := .int .i64 (IntKind.i64.wrap (((jj : Nat) : Int) + 1))) (vint (w64 (by omega) (by omega) (by omega))) (by kernel_rfl)) ?_
                refine S_val (.int .i64 ((jj + 1 : Nat) : Int)) (by kernel_rfl) (fun _ _ => by kernel_rfl) ?_
                refine S_nil ?_
                exact E_norm (fun w hw => ⟨jj + 1, by omega, (by kernel_rfl), (by (try dsimp only); omega), hw⟩)
              · replace hc6 := of_decide_eq_false hc6
                obtain rfl : jj = n + 1 := by omega
                refine C_exit ?_
                refine E_pass_exit ?_
                refine E_pass_exit ?_
                refine E_outblock ?_
                refine E_inblock ?_
                refine E_then ?_
                refine C_region ?_
                refine S_val (.int .i64 ((i + 1 : Nat) : Int)) (by kernel_rfl) (fun _ _ => fv (v := .int .i64 (IntKind.i64.wrap (((i : Nat) : Int) + 1))) (vint (w64 (by omega) (by omega) (by omega))) (by kernel_rfl)) ?_
                refine S_val (.int .i64 ((i + 1 : Nat) : Int)) (by kernel_rfl) (fun _ _ => by kernel_rfl) ?_
                refine S_nil ?_
                exact E_norm (fun w hw => ⟨i + 1, by omega, (by kernel_rfl), (by (try dsimp only); omega), Own.eq hw.tail (by (try dsimp only); first | (rw [em_e hik hz]; done) | (rw [em_e hik hz]; rfl))⟩)
        · replace hc4 := of_decide_eq_false hc4
          obtain rfl : n = i := by omega
          refine C_exit ?_
          refine E_pass_exit ?_
          refine E_pass_exit ?_
          refine E_outblock ?_
          exact E_end (.tuple #[]) rfl (resM (rs := []) Tryd.results50 [] (by simp) (fun w hO => .nil)) (fun w hw => .inl ⟨⟨(p, ids'), hp1, hpn, hz, hid1⟩, rfl, by subst hQ hQ1; exact hw.tail⟩)
  · refine C_region ?_
    refine S_val (.int .i64 ((p : Nat) : Int)) (by kernel_rfl) (fun _ _ => by kernel_rfl) ?_
    refine S_val (.slice (some ⟨o, 0, none⟩) n n) (by kernel_rfl) (fun _ _ => by kernel_rfl) ?_
    refine S_val (.int .i64 ((n : Nat) : Int)) (by kernel_rfl) (fun _ _ => by kernel_rfl) ?_
    refine S_val (.bool false) (by kernel_rfl) (fun _ _ => fv (v := .bool (decide (((p : Nat) : Int) < ((n : Nat) : Int)))) (vbool (decide_eq_false (by omega))) (by kernel_rfl)) ?_
    refine S_val (.bool false) (by kernel_rfl) (fun _ _ => by kernel_rfl) ?_
    refine S_not (by kernel_rfl) ?_
    refine S_not (by kernel_rfl) ?_
    refine S_not (by kernel_rfl) ?_
    refine S_not (by kernel_rfl) ?_
    refine S_not (by kernel_rfl) ?_
    refine S_not (by kernel_rfl) ?_
    refine S_not (by kernel_rfl) ?_
    refine S_not (by kernel_rfl) ?_
    refine S_not (by kernel_rfl) ?_
    refine S_val (.bool false) (by kernel_rfl) (fun _ _ => by kernel_rfl) ?_
    refine S_nil ?_
    refine E_then ?_
    refine C_false (by kernel_rfl) ?_
    refine C_exit ?_
    refine E_pass_exit ?_
    refine E_pass_exit ?_
    refine E_outblock ?_
    refine E_then ?_
    refine C_seq ?_
    refine C_seq ?_
    refine C_region ?_
    refine S_val (.int .i64 ((p : Nat) : Int)) (by kernel_rfl) (fun _ _ => by kernel_rfl) ?_
    refine S_val (.slice (some ⟨o, 0, none⟩) n n) (by kernel_rfl) (fun _ _ => by kernel_rfl) ?_
    refine S_val (.int .i64 ((n : Nat) : Int)) (by kernel_rfl) (fun _ _ => by kernel_rfl) ?_
    refine S_val (.bool true) (by kernel_rfl) (fun _ _ => fv (v := .bool (((p : Nat) : Int) == ((n : Nat) : Int))) (vbool (beq_iff_eq.2 (by omega))) (by kernel_rfl)) ?_
    refine S_nil ?_
    refine E_then ?_
    refine C_true (by kernel_rfl) ?_
    refine C_region ?_
    refine S_val (.agg #[]) (by kernel_rfl) (fun _ _ => by kernel_rfl) ?_
    refine S_val (.iface 96 (.agg #[])) (by kernel_rfl) (fun _ _ => by kernel_rfl) ?_
    refine S_panic (.iface 96 (.agg #[])) (by kernel_rfl) (fun _ _ => by kernel_rfl) ?_
    refine E_pass_panic ?_
    exact E_panicbody rfl (fun w hw => .inr ⟨⟨(), fun q h1 h2 => hp3 q h1 (by omega)⟩, rfl, hw⟩)
end Go.Vk
