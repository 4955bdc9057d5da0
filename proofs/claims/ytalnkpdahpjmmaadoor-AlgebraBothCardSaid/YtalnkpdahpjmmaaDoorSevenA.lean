/- What functions of the program do: walks, printed by a program of my own. -/
import Derived.Test.YtalnkpdahpjmmaaDoorVf
import Derived.Test.YtalnkpdahpjmmaaDoorProg
import Derived.Test.YtalnkpdahpjmmaaDoorSevenP
set_option linter.unusedVariables false
set_option linter.unusedSimpArgs false
namespace Go.Vk
open Go Go.RowKit Go.Proofs
theorem c_r (n : Int) : Pure Tryd.prog 29 #[.agg #[.int .i64 n]] (.int .i64 (n % 7)) := by
  refine pure_of Tryd.func29 rfl (fun w0 => ?_)
  refine C_seq ?_
  refine C_region ?_
  refine S_newv (fun nb0 => .pointer (some ⟨nb0, 0, none⟩)) [.int .i64 n] 68 (by kernel_rfl) (fun w _ => by kernel_rfl) ?_
  intro b1 hb1 Hb1
  refine S_val (.int .i64 0) (by kernel_rfl) (fun _ _ => by kernel_rfl) ?_
  refine S_nil ?_
  refine E_then ?_
  refine C_seq ?_
  refine C_region ?_
  refine S_val (.pointer (some ⟨b1, 0, none⟩)) (by kernel_rfl) (fun _ _ => by kernel_rfl) ?_
  refine S_val (.int .i64 n) (by kernel_rfl) (ld1 0 b1 0 [.int .i64 n] 68 rfl (by kernel_rfl) Tryd.isAgg3 (by kernel_rfl) (by kernel_rfl)) ?_
  refine S_val (.int .i64 (n.tmod 7)) (by kernel_rfl) (fun _ _ => by kernel_rfl) ?_
  refine S_val (.int .i64 (n.tmod 7 + 7)) (by kernel_rfl) (fun _ _ => fv (v := .int .i64 (IntKind.i64.wrap ((n.tmod 7) + 7))) (vint (w64 rfl (by have := tmod7 n; omega) (by have := tmod7 n; omega))) (by kernel_rfl)) ?_
  refine S_val (.int .i64 (n % 7)) (by kernel_rfl) (fun _ _ => fv (v := .int .i64 ((n.tmod 7 + 7).tmod 7)) (vint (r7 n)) (by kernel_rfl)) ?_
  refine S_val (.int .i64 (n % 7)) (by kernel_rfl) (fun _ _ => by kernel_rfl) ?_
  refine S_nil ?_
  refine E_then ?_
  refine C_ret ?_
  exact pure_ret rfl (res1 Tryd.results29 (by kernel_rfl))
theorem c_add (a b : Int) : Pure Tryd.prog 110 #[.agg #[.int .i64 a], .agg #[.int .i64 b]] (.agg #[.int .i64 (ad a b)]) := by
  refine pure_of Tryd.func110 rfl (fun w0 => ?_)
  refine C_seq ?_
  refine C_region ?_
  refine S_newv (fun nb0 => .pointer (some ⟨nb0, 0, none⟩)) [.int .i64 a] 68 (by kernel_rfl) (fun w _ => by kernel_rfl) ?_
  intro b1 hb1 Hb1
  refine S_newv (fun nb0 => .pointer (some ⟨nb0, 0, none⟩)) [.int .i64 b] 68 (by kernel_rfl) (fun w _ => by kernel_rfl) ?_
  intro b2 hb2 Hb2
  refine S_newv (fun nb0 => .pointer (some ⟨nb0, 0, none⟩)) [.int .i64 0] 68 (by kernel_rfl) (fun w _ => by kernel_rfl) ?_
  intro b3 hb3 Hb3
  refine S_nil ?_
  refine E_then ?_
  refine C_seq ?_
  refine C_drawn [.held, .held, .held, .held, .pure, .pure, .eff] (by kernel_rfl) (by kernel_rfl) ?_
  refine D_held (.agg #[.int .i64 a]) (by kernel_rfl) (ldN [.int .i64 a] 2 b1 0 [.int .i64 a] 68 rfl (by kernel_rfl) Tryd.isAgg68 Tryd.sizeOf68 (by kernel_rfl) (by kernel_rfl)) ?_
  refine D_pure (v := .int .i64 (a % 7)) (by kernel_rfl) (c_r a) (fun _ => by kernel_rfl) ?_
  refine D_held (.agg #[.int .i64 b]) (by kernel_rfl) (ldN [.int .i64 b] 1 b2 0 [.int .i64 b] 68 rfl (by kernel_rfl) Tryd.isAgg68 Tryd.sizeOf68 (by kernel_rfl) (by kernel_rfl)) ?_
  refine D_pure (v := .int .i64 (b % 7)) (by kernel_rfl) (c_r b) (fun _ => by kernel_rfl) ?_
  refine D_val (.int .i64 (ad a b)) (by kernel_rfl) (fun _ => fv (v := .int .i64 (IntKind.i64.wrap ((a % 7) + (b % 7)))) (vint (w64 rfl (by have := addb a b; omega) (by have := addb a b; omega))) (by kernel_rfl)) ?_
  refine D_val (.agg #[.int .i64 (ad a b)]) (by kernel_rfl) (fun _ => by kernel_rfl) ?_
  refine D_do (by kernel_rfl) (stN (L' := [⟨b3, [.int .i64 (ad a b)], 68⟩, ⟨b2, [.int .i64 b], 68⟩, ⟨b1, [.int .i64 a], 68⟩]) [.int .i64 (ad a b)] 0 b3 0 [.int .i64 0] 68 rfl (by kernel_rfl) (by kernel_rfl) Tryd.sizeOf68 (by simp [Value.oneCell']) (by kernel_rfl) (by simp) (by kernel_rfl)) ?_
  refine D_nil ?_
  refine E_then ?_
  refine C_ret ?_
  exact pure_ret rfl (resC Tryd.results110 [.int .i64 (ad a b)] 0 b3 68 (by kernel_rfl) Tryd.isAgg68 Tryd.sizeOf68 (by kernel_rfl))
theorem c_sub (a b : Int) : Pure Tryd.prog 115 #[.agg #[.int .i64 a], .agg #[.int .i64 b]] (.agg #[.int .i64 (su a b)]) := by
  refine pure_of Tryd.func115 rfl (fun w0 => ?_)
  refine C_seq ?_
  refine C_region ?_
  refine S_newv (fun nb0 => .pointer (some ⟨nb0, 0, none⟩)) [.int .i64 a] 68 (by kernel_rfl) (fun w _ => by kernel_rfl) ?_
  intro b1 hb1 Hb1
  refine S_newv (fun nb0 => .pointer (some ⟨nb0, 0, none⟩)) [.int .i64 b] 68 (by kernel_rfl) (fun w _ => by kernel_rfl) ?_
  intro b2 hb2 Hb2
  refine S_newv (fun nb0 => .pointer (some ⟨nb0, 0, none⟩)) [.int .i64 0] 68 (by kernel_rfl) (fun w _ => by kernel_rfl) ?_
  intro b3 hb3 Hb3
  refine S_nil ?_
  refine E_then ?_
  refine C_seq ?_
  refine C_drawn [.held, .held, .held, .held, .pure, .pure, .eff] (by kernel_rfl) (by kernel_rfl) ?_
  refine D_held (.agg #[.int .i64 a]) (by kernel_rfl) (ldN [.int .i64 a] 2 b1 0 [.int .i64 a] 68 rfl (by kernel_rfl) Tryd.isAgg68 Tryd.sizeOf68 (by kernel_rfl) (by kernel_rfl)) ?_
  refine D_pure (v := .int .i64 (a % 7)) (by kernel_rfl) (c_r a) (fun _ => by kernel_rfl) ?_
  refine D_held (.agg #[.int .i64 b]) (by kernel_rfl) (ldN [.int .i64 b] 1 b2 0 [.int .i64 b] 68 rfl (by kernel_rfl) Tryd.isAgg68 Tryd.sizeOf68 (by kernel_rfl) (by kernel_rfl)) ?_
  refine D_pure (v := .int .i64 (b % 7)) (by kernel_rfl) (c_r b) (fun _ => by kernel_rfl) ?_
  refine D_val (.int .i64 (su a b)) (by kernel_rfl) (fun _ => fv (v := .int .i64 (IntKind.i64.wrap ((a % 7) - (b % 7)))) (vint (w64 rfl (by have := addb a b; omega) (by have := addb a b; omega))) (by kernel_rfl)) ?_
  refine D_val (.agg #[.int .i64 (su a b)]) (by kernel_rfl) (fun _ => by kernel_rfl) ?_
  refine D_do (by kernel_rfl) (stN (L' := [⟨b3, [.int .i64 (su a b)], 68⟩, ⟨b2, [.int .i64 b], 68⟩, ⟨b1, [.int .i64 a], 68⟩]) [.int .i64 (su a b)] 0 b3 0 [.int .i64 0] 68 rfl (by kernel_rfl) (by kernel_rfl) Tryd.sizeOf68 (by simp [Value.oneCell']) (by kernel_rfl) (by simp) (by kernel_rfl)) ?_
  refine D_nil ?_
  refine E_then ?_
  refine C_ret ?_
  exact pure_ret rfl (resC Tryd.results115 [.int .i64 (su a b)] 0 b3 68 (by kernel_rfl) Tryd.isAgg68 Tryd.sizeOf68 (by kernel_rfl))
theorem c_mul (a b : Int) : Pure Tryd.prog 113 #[.agg #[.int .i64 a], .agg #[.int .i64 b]] (.agg #[.int .i64 (mu a b)]) := by
  refine pure_of Tryd.func113 rfl (fun w0 => ?_)
  refine C_seq ?_
  refine C_region ?_
  refine S_newv (fun nb0 => .pointer (some ⟨nb0, 0, none⟩)) [.int .i64 a] 68 (by kernel_rfl) (fun w _ => by kernel_rfl) ?_
  intro b1 hb1 Hb1
  refine S_newv (fun nb0 => .pointer (some ⟨nb0, 0, none⟩)) [.int .i64 b] 68 (by kernel_rfl) (fun w _ => by kernel_rfl) ?_
  intro b2 hb2 Hb2
  refine S_newv (fun nb0 => .pointer (some ⟨nb0, 0, none⟩)) [.int .i64 0] 68 (by kernel_rfl) (fun w _ => by kernel_rfl) ?_
  intro b3 hb3 Hb3
  refine S_nil ?_
  refine E_then ?_
  refine C_seq ?_
  refine C_drawn [.held, .held, .held, .held, .pure, .pure, .eff] (by kernel_rfl) (by kernel_rfl) ?_
  refine D_held (.agg #[.int .i64 a]) (by kernel_rfl) (ldN [.int .i64 a] 2 b1 0 [.int .i64 a] 68 rfl (by kernel_rfl) Tryd.isAgg68 Tryd.sizeOf68 (by kernel_rfl) (by kernel_rfl)) ?_
  refine D_pure (v := .int .i64 (a % 7)) (by kernel_rfl) (c_r a) (fun _ => by kernel_rfl) ?_
  refine D_held (.agg #[.int .i64 b]) (by kernel_rfl) (ldN [.int .i64 b] 1 b2 0 [.int .i64 b] 68 rfl (by kernel_rfl) Tryd.isAgg68 Tryd.sizeOf68 (by kernel_rfl) (by kernel_rfl)) ?_
  refine D_pure (v := .int .i64 (b % 7)) (by kernel_rfl) (c_r b) (fun _ => by kernel_rfl) ?_
  refine D_val (.int .i64 (mu a b)) (by kernel_rfl) (fun _ => fv (v := .int .i64 (IntKind.i64.wrap ((a % 7) * (b % 7)))) (vint (w64 rfl (by have := mulb a b; omega) (by have := mulb a b; omega))) (by kernel_rfl)) ?_
  refine D_val (.agg #[.int .i64 (mu a b)]) (by kernel_rfl) (fun _ => by kernel_rfl) ?_
  refine D_do (by kernel_rfl) (stN (L' := [⟨b3, [.int .i64 (mu a b)], 68⟩, ⟨b2, [.int .i64 b], 68⟩, ⟨b1, [.int .i64 a], 68⟩]) [.int .i64 (mu a b)] 0 b3 0 [.int .i64 0] 68 rfl (by kernel_rfl) (by kernel_rfl) Tryd.sizeOf68 (by simp [Value.oneCell']) (by kernel_rfl) (by simp) (by kernel_rfl)) ?_
  refine D_nil ?_
  refine E_then ?_
  refine C_ret ?_
  exact pure_ret rfl (resC Tryd.results113 [.int .i64 (mu a b)] 0 b3 68 (by kernel_rfl) Tryd.isAgg68 Tryd.sizeOf68 (by kernel_rfl))
theorem c_one (a : Int) : Pure Tryd.prog 114 #[.agg #[.int .i64 a]] (.agg #[.int .i64 1]) := by
  refine pure_of Tryd.func114 rfl (fun w0 => ?_)
  refine C_seq ?_
  refine C_region ?_
  refine S_newv (fun nb0 => .pointer (some ⟨nb0, 0, none⟩)) [.int .i64 a] 68 (by kernel_rfl) (fun w _ => by kernel_rfl) ?_
  intro b1 hb1 Hb1
  refine S_newv (fun nb0 => .pointer (some ⟨nb0, 0, none⟩)) [.int .i64 0] 68 (by kernel_rfl) (fun w _ => by kernel_rfl) ?_
  intro b2 hb2 Hb2
  refine S_nil ?_
  refine E_then ?_
  refine C_seq ?_
  refine C_region ?_
  refine S_val (.agg #[.int .i64 1]) (by kernel_rfl) (fun _ _ => by kernel_rfl) ?_
  refine S_do (by kernel_rfl) (stN (L' := [⟨b2, [.int .i64 1], 68⟩, ⟨b1, [.int .i64 a], 68⟩]) [.int .i64 1] 0 b2 0 [.int .i64 0] 68 rfl (by kernel_rfl) (by kernel_rfl) Tryd.sizeOf68 (by simp [Value.oneCell']) (by kernel_rfl) (by simp) (by kernel_rfl)) ?_
  refine S_nil ?_
  refine E_then ?_
  refine C_ret ?_
  exact pure_ret rfl (resC Tryd.results114 [.int .i64 1] 0 b2 68 (by kernel_rfl) Tryd.isAgg68 Tryd.sizeOf68 (by kernel_rfl))
theorem c_isZero (a : Int) : Pure Tryd.prog 112 #[.agg #[.int .i64 a]] (.bool (a % 7 == 0)) := by
  refine pure_of Tryd.func112 rfl (fun w0 => ?_)
  refine C_seq ?_
  refine C_region ?_
  refine S_newv (fun nb0 => .pointer (some ⟨nb0, 0, none⟩)) [.int .i64 a] 68 (by kernel_rfl) (fun w _ => by kernel_rfl) ?_
  intro b1 hb1 Hb1
  refine S_val (.bool false) (by kernel_rfl) (fun _ _ => by kernel_rfl) ?_
  refine S_nil ?_
  refine E_then ?_
  refine C_seq ?_
  refine C_region ?_
  refine S_val (.agg #[.int .i64 a]) (by kernel_rfl) (ldN [.int .i64 a] 0 b1 0 [.int .i64 a] 68 rfl (by kernel_rfl) Tryd.isAgg68 Tryd.sizeOf68 (by kernel_rfl) (by kernel_rfl)) ?_
  refine S_pure (v := .int .i64 (a % 7)) (by kernel_rfl) (c_r a) (fun _ => by kernel_rfl) ?_
  refine S_val (.bool ((a % 7) == 0)) (by kernel_rfl) (fun _ _ => by kernel_rfl) ?_
  refine S_val (.bool ((a % 7) == 0)) (by kernel_rfl) (fun _ _ => by kernel_rfl) ?_
  refine S_nil ?_
  refine E_then ?_
  refine C_ret ?_
  exact pure_ret rfl (res1 Tryd.results112 (by kernel_rfl))
theorem c_inv0 (a : Int) (h : a % 7 = 0) : Pure Tryd.prog 111 #[.agg #[.int .i64 a]] (.agg #[.int .i64 0]) := by
  refine pure_of Tryd.func111 rfl (fun w0 => ?_)
  refine C_seq ?_
  refine C_region ?_
  refine S_newv (fun nb0 => .pointer (some ⟨nb0, 0, none⟩)) [.int .i64 a] 68 (by kernel_rfl) (fun w _ => by kernel_rfl) ?_
  intro b1 hb1 Hb1
  refine S_newv (fun nb0 => .pointer (some ⟨nb0, 0, none⟩)) [.int .i64 0] 68 (by kernel_rfl) (fun w _ => by kernel_rfl) ?_
  intro b2 hb2 Hb2
  refine S_nil ?_
  refine E_then ?_
  refine C_seq ?_
  refine C_seq ?_
  refine C_region ?_
  refine S_val (.int .i64 1) (by kernel_rfl) (fun _ _ => by kernel_rfl) ?_
  refine S_nil ?_
  refine E_then ?_
  refine C_block ?_
  refine C_unroll 7 ?_
  refine R_succ ?_
  refine C_seq ?_
  refine C_seq ?_
  refine C_region ?_
  refine S_val (.int .i64 1) (by kernel_rfl) (fun _ _ => by kernel_rfl) ?_
  refine S_val (.bool true) (by kernel_rfl) (fun _ _ => by kernel_rfl) ?_
  refine S_nil ?_
  refine E_then ?_
  refine C_true (by kernel_rfl) ?_
  refine C_skip ?_
  refine E_then ?_
  refine C_seq ?_
  refine C_block ?_
  refine C_seq ?_
  refine C_region ?_
  refine S_val (.agg #[.int .i64 a]) (by kernel_rfl) (ldN [.int .i64 a] 1 b1 0 [.int .i64 a] 68 rfl (by kernel_rfl) Tryd.isAgg68 Tryd.sizeOf68 (by kernel_rfl) (by kernel_rfl)) ?_
  refine S_pure (v := .int .i64 0) (by kernel_rfl) (h ▸ c_r a) (fun _ => by kernel_rfl) ?_
  refine S_val (.int .i64 1) (by kernel_rfl) (fun _ _ => by kernel_rfl) ?_
  refine S_val (.int .i64 0) (by kernel_rfl) (fun _ _ => by kernel_rfl) ?_
  refine S_val (.int .i64 0) (by kernel_rfl) (fun _ _ => by kernel_rfl) ?_
  refine S_val (.bool false) (by kernel_rfl) (fun _ _ => by kernel_rfl) ?_
  refine S_nil ?_
  refine E_then ?_
  refine C_false (by kernel_rfl) ?_
  refine C_skip ?_
  refine E_inblock ?_
  refine E_then ?_
  refine C_region ?_
  refine S_val (.int .i64 1) (by kernel_rfl) (fun _ _ => by kernel_rfl) ?_
  refine S_val (.int .i64 2) (by kernel_rfl) (fun _ _ => by kernel_rfl) ?_
  refine S_val (.int .i64 2) (by kernel_rfl) (fun _ _ => by kernel_rfl) ?_
  refine S_nil ?_
  refine E_rounds ?_
  refine R_succ ?_
  refine C_seq ?_
  refine C_seq ?_
  refine C_region ?_
  refine S_val (.int .i64 2) (by kernel_rfl) (fun _ _ => by kernel_rfl) ?_
  refine S_val (.bool true) (by kernel_rfl) (fun _ _ => by kernel_rfl) ?_
  refine S_nil ?_
  refine E_then ?_
  refine C_true (by kernel_rfl) ?_
  refine C_skip ?_
  refine E_then ?_
  refine C_seq ?_
  refine C_block ?_
  refine C_seq ?_
  refine C_region ?_
  refine S_val (.agg #[.int .i64 a]) (by kernel_rfl) (ldN [.int .i64 a] 1 b1 0 [.int .i64 a] 68 rfl (by kernel_rfl) Tryd.isAgg68 Tryd.sizeOf68 (by kernel_rfl) (by kernel_rfl)) ?_
  refine S_pure (v := .int .i64 0) (by kernel_rfl) (h ▸ c_r a) (fun _ => by kernel_rfl) ?_
  refine S_val (.int .i64 2) (by kernel_rfl) (fun _ _ => by kernel_rfl) ?_
  refine S_val (.int .i64 0) (by kernel_rfl) (fun _ _ => by kernel_rfl) ?_
  refine S_val (.int .i64 0) (by kernel_rfl) (fun _ _ => by kernel_rfl) ?_
  refine S_val (.bool false) (by kernel_rfl) (fun _ _ => by kernel_rfl) ?_
  refine S_nil ?_
  refine E_then ?_
  refine C_false (by kernel_rfl) ?_
  refine C_skip ?_
  refine E_inblock ?_
  refine E_then ?_
  refine C_region ?_
  refine S_val (.int .i64 2) (by kernel_rfl) (fun _ _ => by kernel_rfl) ?_
  refine S_val (.int .i64 3) (by kernel_rfl) (fun _ _ => by kernel_rfl) ?_
  refine S_val (.int .i64 3) (by kernel_rfl) (fun _ _ => by kernel_rfl) ?_
  refine S_nil ?_
  refine E_rounds ?_
  refine R_succ ?_
  refine C_seq ?_
  refine C_seq ?_
  refine C_region ?_
  refine S_val (.int .i64 3) (by kernel_rfl) (fun _ _ => by kernel_rfl) ?_
  refine S_val (.bool true) (by kernel_rfl) (fun _ _ => by kernel_rfl) ?_
  refine S_nil ?_
  refine E_then ?_
  refine C_true (by kernel_rfl) ?_
  refine C_skip ?_
  refine E_then ?_
  refine C_seq ?_
  refine C_block ?_
  refine C_seq ?_
  refine C_region ?_
  refine S_val (.agg #[.int .i64 a]) (by kernel_rfl) (ldN [.int .i64 a] 1 b1 0 [.int .i64 a] 68 rfl (by kernel_rfl) Tryd.isAgg68 Tryd.sizeOf68 (by kernel_rfl) (by kernel_rfl)) ?_
  refine S_pure (v := .int .i64 0) (by kernel_rfl) (h ▸ c_r a) (fun _ => by kernel_rfl) ?_
  refine S_val (.int .i64 3) (by kernel_rfl) (fun _ _ => by kernel_rfl) ?_
  refine S_val (.int .i64 0) (by kernel_rfl) (fun _ _ => by kernel_rfl) ?_
  refine S_val (.int .i64 0) (by kernel_rfl) (fun _ _ => by kernel_rfl) ?_
  refine S_val (.bool false) (by kernel_rfl) (fun _ _ => by kernel_rfl) ?_
  refine S_nil ?_
  refine E_then ?_
  refine C_false (by kernel_rfl) ?_
  refine C_skip ?_
  refine E_inblock ?_
  refine E_then ?_
  refine C_region ?_
  refine S_val (.int .i64 3) (by kernel_rfl) (fun _ _ => by kernel_rfl) ?_
  refine S_val (.int .i64 4) (by kernel_rfl) (fun _ _ => by kernel_rfl) ?_
  refine S_val (.int .i64 4) (by kernel_rfl) (fun _ _ => by kernel_rfl) ?_
  refine S_nil ?_
  refine E_rounds ?_
  refine R_succ ?_
  refine C_seq ?_
  refine C_seq ?_
  refine C_region ?_
  refine S_val (.int .i64 4) (by kernel_rfl) (fun _ _ => by kernel_rfl) ?_
  refine S_val (.bool true) (by kernel_rfl) (fun _ _ => by kernel_rfl) ?_
  refine S_nil ?_
  refine E_then ?_
  refine C_true (by kernel_rfl) ?_
  refine C_skip ?_
  refine E_then ?_
  refine C_seq ?_
  refine C_block ?_
  refine C_seq ?_
  refine C_region ?_
  refine S_val (.agg #[.int .i64 a]) (by kernel_rfl) (ldN [.int .i64 a] 1 b1 0 [.int .i64 a] 68 rfl (by kernel_rfl) Tryd.isAgg68 Tryd.sizeOf68 (by kernel_rfl) (by kernel_rfl)) ?_
  refine S_pure (v := .int .i64 0) (by kernel_rfl) (h ▸ c_r a) (fun _ => by kernel_rfl) ?_
  refine S_val (.int .i64 4) (by kernel_rfl) (fun _ _ => by kernel_rfl) ?_
  refine S_val (.int .i64 0) (by kernel_rfl) (fun _ _ => by kernel_rfl) ?_
  refine S_val (.int .i64 0) (by kernel_rfl) (fun _ _ => by kernel_rfl) ?_
  refine S_val (.bool false) (by kernel_rfl) (fun _ _ => by kernel_rfl) ?_
  refine S_nil ?_
  refine E_then ?_
  refine C_false (by kernel_rfl) ?_
  refine C_skip ?_
  refine E_inblock ?_
  refine E_then ?_
  refine C_region ?_
  refine S_val (.int .i64 4) (by kernel_rfl) (fun _ _ => by kernel_rfl) ?_
  refine S_val (.int .i64 5) (by kernel_rfl) (fun _ _ => by kernel_rfl) ?_
  refine S_val (.int .i64 5) (by kernel_rfl) (fun _ _ => by kernel_rfl) ?_
  refine S_nil ?_
  refine E_rounds ?_
  refine R_succ ?_
  refine C_seq ?_
  refine C_seq ?_
  refine C_region ?_
  refine S_val (.int .i64 5) (by kernel_rfl) (fun _ _ => by kernel_rfl) ?_
  refine S_val (.bool true) (by kernel_rfl) (fun _ _ => by kernel_rfl) ?_
  refine S_nil ?_
  refine E_then ?_
  refine C_true (by kernel_rfl) ?_
  refine C_skip ?_
  refine E_then ?_
  refine C_seq ?_
  refine C_block ?_
  refine C_seq ?_
  refine C_region ?_
  refine S_val (.agg #[.int .i64 a]) (by kernel_rfl) (ldN [.int .i64 a] 1 b1 0 [.int .i64 a] 68 rfl (by kernel_rfl) Tryd.isAgg68 Tryd.sizeOf68 (by kernel_rfl) (by kernel_rfl)) ?_
  refine S_pure (v := .int .i64 0) (by kernel_rfl) (h ▸ c_r a) (fun _ => by kernel_rfl) ?_
  refine S_val (.int .i64 5) (by kernel_rfl) (fun _ _ => by kernel_rfl) ?_
  refine S_val (.int .i64 0) (by kernel_rfl) (fun _ _ => by kernel_rfl) ?_
  refine S_val (.int .i64 0) (by kernel_rfl) (fun _ _ => by kernel_rfl) ?_
  refine S_val (.bool false) (by kernel_rfl) (fun _ _ => by kernel_rfl) ?_
  refine S_nil ?_
  refine E_then ?_
  refine C_false (by kernel_rfl) ?_
  refine C_skip ?_
  refine E_inblock ?_
  refine E_then ?_
  refine C_region ?_
  refine S_val (.int .i64 5) (by kernel_rfl) (fun _ _ => by kernel_rfl) ?_
  refine S_val (.int .i64 6) (by kernel_rfl) (fun _ _ => by kernel_rfl) ?_
  refine S_val (.int .i64 6) (by kernel_rfl) (fun _ _ => by kernel_rfl) ?_
  refine S_nil ?_
  refine E_rounds ?_
  refine R_succ ?_
  refine C_seq ?_
  refine C_seq ?_
  refine C_region ?_
  refine S_val (.int .i64 6) (by kernel_rfl) (fun _ _ => by kernel_rfl) ?_
  refine S_val (.bool true) (by kernel_rfl) (fun _ _ => by kernel_rfl) ?_
  refine S_nil ?_
  refine E_then ?_
  refine C_true (by kernel_rfl) ?_
  refine C_skip ?_
  refine E_then ?_
  refine C_seq ?_
  refine C_block ?_
  refine C_seq ?_
  refine C_region ?_
  refine S_val (.agg #[.int .i64 a]) (by kernel_rfl) (ldN [.int .i64 a] 1 b1 0 [.int .i64 a] 68 rfl (by kernel_rfl) Tryd.isAgg68 Tryd.sizeOf68 (by kernel_rfl) (by kernel_rfl)) ?_
  refine S_pure (v := .int .i64 0) (by kernel_rfl) (h ▸ c_r a) (fun _ => by kernel_rfl) ?_
  refine S_val (.int .i64 6) (by kernel_rfl) (fun _ _ => by kernel_rfl) ?_
  refine S_val (.int .i64 0) (by kernel_rfl) (fun _ _ => by kernel_rfl) ?_
  refine S_val (.int .i64 0) (by kernel_rfl) (fun _ _ => by kernel_rfl) ?_
  refine S_val (.bool false) (by kernel_rfl) (fun _ _ => by kernel_rfl) ?_
  refine S_nil ?_
  refine E_then ?_
  refine C_false (by kernel_rfl) ?_
  refine C_skip ?_
  refine E_inblock ?_
  refine E_then ?_
  refine C_region ?_
  refine S_val (.int .i64 6) (by kernel_rfl) (fun _ _ => by kernel_rfl) ?_
  refine S_val (.int .i64 7) (by kernel_rfl) (fun _ _ => by kernel_rfl) ?_
  refine S_val (.int .i64 7) (by kernel_rfl) (fun _ _ => by kernel_rfl) ?_
  refine S_nil ?_
  refine E_rounds ?_
  refine R_succ ?_
  refine C_seq ?_
  refine C_seq ?_
  refine C_region ?_
  refine S_val (.int .i64 7) (by kernel_rfl) (fun _ _ => by kernel_rfl) ?_
  refine S_val (.bool false) (by kernel_rfl) (fun _ _ => by kernel_rfl) ?_
  refine S_nil ?_
  refine E_then ?_
  refine C_false (by kernel_rfl) ?_
  refine C_exit ?_
  refine E_pass_exit ?_
  refine E_pass_exit ?_
  refine E_outblock ?_
  refine E_then ?_
  refine C_seq ?_
  refine C_region ?_
  refine S_val (.agg #[.int .i64 0]) (by kernel_rfl) (fun _ _ => by kernel_rfl) ?_
  refine S_do (by kernel_rfl) (stN (L' := [⟨b2, [.int .i64 0], 68⟩, ⟨b1, [.int .i64 a], 68⟩]) [.int .i64 0] 0 b2 0 [.int .i64 0] 68 rfl (by kernel_rfl) (by kernel_rfl) Tryd.sizeOf68 (by simp [Value.oneCell']) (by kernel_rfl) (by simp) (by kernel_rfl)) ?_
  refine S_nil ?_
  refine E_then ?_
  refine C_ret ?_
  exact pure_ret rfl (resC Tryd.results111 [.int .i64 0] 0 b2 68 (by kernel_rfl) Tryd.isAgg68 Tryd.sizeOf68 (by kernel_rfl))
theorem c_inv1 (a : Int) (h : a % 7 = 1) : Pure Tryd.prog 111 #[.agg #[.int .i64 a]] (.agg #[.int .i64 1]) := by
  refine pure_of Tryd.func111 rfl (fun w0 => ?_)
  refine C_seq ?_
  refine C_region ?_
  refine S_newv (fun nb0 => .pointer (some ⟨nb0, 0, none⟩)) [.int .i64 a] 68 (by kernel_rfl) (fun w _ => by kernel_rfl) ?_
  intro b1 hb1 Hb1
  refine S_newv (fun nb0 => .pointer (some ⟨nb0, 0, none⟩)) [.int .i64 0] 68 (by kernel_rfl) (fun w _ => by kernel_rfl) ?_
  intro b2 hb2 Hb2
  refine S_nil ?_
  refine E_then ?_
  refine C_seq ?_
  refine C_seq ?_
  refine C_region ?_
  refine S_val (.int .i64 1) (by kernel_rfl) (fun _ _ => by kernel_rfl) ?_
  refine S_nil ?_
  refine E_then ?_
  refine C_block ?_
  refine C_unroll 7 ?_
  refine R_succ ?_
  refine C_seq ?_
  refine C_seq ?_
  refine C_region ?_
  refine S_val (.int .i64 1) (by kernel_rfl) (fun _ _ => by kernel_rfl) ?_
  refine S_val (.bool true) (by kernel_rfl) (fun _ _ => by kernel_rfl) ?_
  refine S_nil ?_
  refine E_then ?_
  refine C_true (by kernel_rfl) ?_
  refine C_skip ?_
  refine E_then ?_
  refine C_seq ?_
  refine C_block ?_
  refine C_seq ?_
  refine C_region ?_
  refine S_val (.agg #[.int .i64 a]) (by kernel_rfl) (ldN [.int .i64 a] 1 b1 0 [.int .i64 a] 68 rfl (by kernel_rfl) Tryd.isAgg68 Tryd.sizeOf68 (by kernel_rfl) (by kernel_rfl)) ?_
  refine S_pure (v := .int .i64 1) (by kernel_rfl) (h ▸ c_r a) (fun _ => by kernel_rfl) ?_
  refine S_val (.int .i64 1) (by kernel_rfl) (fun _ _ => by kernel_rfl) ?_
  refine S_val (.int .i64 1) (by kernel_rfl) (fun _ _ => by kernel_rfl) ?_
  refine S_val (.int .i64 1) (by kernel_rfl) (fun _ _ => by kernel_rfl) ?_
  refine S_val (.bool true) (by kernel_rfl) (fun _ _ => by kernel_rfl) ?_
  refine S_nil ?_
  refine E_then ?_
  refine C_true (by kernel_rfl) ?_
  refine C_seq ?_
  refine C_region ?_
  refine S_val (.int .i64 1) (by kernel_rfl) (fun _ _ => by kernel_rfl) ?_
  refine S_val (.agg #[.int .i64 1]) (by kernel_rfl) (fun _ _ => by kernel_rfl) ?_
  refine S_do (by kernel_rfl) (stN (L' := [⟨b2, [.int .i64 1], 68⟩, ⟨b1, [.int .i64 a], 68⟩]) [.int .i64 1] 0 b2 0 [.int .i64 0] 68 rfl (by kernel_rfl) (by kernel_rfl) Tryd.sizeOf68 (by simp [Value.oneCell']) (by kernel_rfl) (by simp) (by kernel_rfl)) ?_
  refine S_nil ?_
  refine E_then ?_
  refine C_ret ?_
  refine E_retblock ?_
  refine E_pass_ret ?_
  refine E_pass_ret ?_
  refine E_retblock ?_
  refine E_pass_ret ?_
  exact pure_ret rfl (resC Tryd.results111 [.int .i64 1] 0 b2 68 (by kernel_rfl) Tryd.isAgg68 Tryd.sizeOf68 (by kernel_rfl))
theorem c_inv2 (a : Int) (h : a % 7 = 2) : Pure Tryd.prog 111 #[.agg #[.int .i64 a]] (.agg #[.int .i64 4]) := by
  refine pure_of Tryd.func111 rfl (fun w0 => ?_)
  refine C_seq ?_
  refine C_region ?_
  refine S_newv (fun nb0 => .pointer (some ⟨nb0, 0, none⟩)) [.int .i64 a] 68 (by kernel_rfl) (fun w _ => by kernel_rfl) ?_
  intro b1 hb1 Hb1
  refine S_newv (fun nb0 => .pointer (some ⟨nb0, 0, none⟩)) [.int .i64 0] 68 (by kernel_rfl) (fun w _ => by kernel_rfl) ?_
  intro b2 hb2 Hb2
  refine S_nil ?_
  refine E_then ?_
  refine C_seq ?_
  refine C_seq ?_
  refine C_region ?_
  refine S_val (.int .i64 1) (by kernel_rfl) (fun _ _ => by kernel_rfl) ?_
  refine S_nil ?_
  refine E_then ?_
  refine C_block ?_
  refine C_unroll 7 ?_
  refine R_succ ?_
  refine C_seq ?_
  refine C_seq ?_
  refine C_region ?_
  refine S_val (.int .i64 1) (by kernel_rfl) (fun _ _ => by kernel_rfl) ?_
  refine S_val (.bool true) (by kernel_rfl) (fun _ _ => by kernel_rfl) ?_
  refine S_nil ?_
  refine E_then ?_
  refine C_true (by kernel_rfl) ?_
  refine C_skip ?_
  refine E_then ?_
  refine C_seq ?_
  refine C_block ?_
  refine C_seq ?_
  refine C_region ?_
  refine S_val (.agg #[.int .i64 a]) (by kernel_rfl) (ldN [.int .i64 a] 1 b1 0 [.int .i64 a] 68 rfl (by kernel_rfl) Tryd.isAgg68 Tryd.sizeOf68 (by kernel_rfl) (by kernel_rfl)) ?_
  refine S_pure (v := .int .i64 2) (by kernel_rfl) (h ▸ c_r a) (fun _ => by kernel_rfl) ?_
  refine S_val (.int .i64 1) (by kernel_rfl) (fun _ _ => by kernel_rfl) ?_
  refine S_val (.int .i64 2) (by kernel_rfl) (fun _ _ => by kernel_rfl) ?_
  refine S_val (.int .i64 2) (by kernel_rfl) (fun _ _ => by kernel_rfl) ?_
  refine S_val (.bool false) (by kernel_rfl) (fun _ _ => by kernel_rfl) ?_
  refine S_nil ?_
  refine E_then ?_
  refine C_false (by kernel_rfl) ?_
  refine C_skip ?_
  refine E_inblock ?_
  refine E_then ?_
  refine C_region ?_
  refine S_val (.int .i64 1) (by kernel_rfl) (fun _ _ => by kernel_rfl) ?_
  refine S_val (.int .i64 2) (by kernel_rfl) (fun _ _ => by kernel_rfl) ?_
  refine S_val (.int .i64 2) (by kernel_rfl) (fun _ _ => by kernel_rfl) ?_
  refine S_nil ?_
  refine E_rounds ?_
  refine R_succ ?_
  refine C_seq ?_
  refine C_seq ?_
  refine C_region ?_
  refine S_val (.int .i64 2) (by kernel_rfl) (fun _ _ => by kernel_rfl) ?_
  refine S_val (.bool true) (by kernel_rfl) (fun _ _ => by kernel_rfl) ?_
  refine S_nil ?_
  refine E_then ?_
  refine C_true (by kernel_rfl) ?_
  refine C_skip ?_
  refine E_then ?_
  refine C_seq ?_
  refine C_block ?_
  refine C_seq ?_
  refine C_region ?_
  refine S_val (.agg #[.int .i64 a]) (by kernel_rfl) (ldN [.int .i64 a] 1 b1 0 [.int .i64 a] 68 rfl (by kernel_rfl) Tryd.isAgg68 Tryd.sizeOf68 (by kernel_rfl) (by kernel_rfl)) ?_
  refine S_pure (v := .int .i64 2) (by kernel_rfl) (h ▸ c_r a) (fun _ => by kernel_rfl) ?_
  refine S_val (.int .i64 2) (by kernel_rfl) (fun _ _ => by kernel_rfl) ?_
  refine S_val (.int .i64 4) (by kernel_rfl) (fun _ _ => by kernel_rfl) ?_
  refine S_val (.int .i64 4) (by kernel_rfl) (fun _ _ => by kernel_rfl) ?_
  refine S_val (.bool false) (by kernel_rfl) (fun _ _ => by kernel_rfl) ?_
  refine S_nil ?_
  refine E_then ?_
  refine C_false (by kernel_rfl) ?_
  refine C_skip ?_
  refine E_inblock ?_
  refine E_then ?_
  refine C_region ?_
  refine S_val (.int .i64 2) (by kernel_rfl) (fun _ _ => by kernel_rfl) ?_
  refine S_val (.int .i64 3) (by kernel_rfl) (fun _ _ => by kernel_rfl) ?_
  refine S_val (.int .i64 3) (by kernel_rfl) (fun _ _ => by kernel_rfl) ?_
  refine S_nil ?_
  refine E_rounds ?_
  refine R_succ ?_
  refine C_seq ?_
  refine C_seq ?_
  refine C_region ?_
  refine S_val (.int .i64 3) (by kernel_rfl) (fun _ _ => by kernel_rfl) ?_
  refine S_val (.bool true) (by kernel_rfl) (fun _ _ => by kernel_rfl) ?_
  refine S_nil ?_
  refine E_then ?_
  refine C_true (by kernel_rfl) ?_
  refine C_skip ?_
  refine E_then ?_
  refine C_seq ?_
  refine C_block ?_
  refine C_seq ?_
  refine C_region ?_
  refine S_val (.agg #[.int .i64 a]) (by kernel_rfl) (ldN [.int .i64 a] 1 b1 0 [.int .i64 a] 68 rfl (by kernel_rfl) Tryd.isAgg68 Tryd.sizeOf68 (by kernel_rfl) (by kernel_rfl)) ?_
  refine S_pure (v := .int .i64 2) (by kernel_rfl) (h ▸ c_r a) (fun _ => by kernel_rfl) ?_
  refine S_val (.int .i64 3) (by kernel_rfl) (fun _ _ => by kernel_rfl) ?_
  refine S_val (.int .i64 6) (by kernel_rfl) (fun _ _ => by kernel_rfl) ?_
  refine S_val (.int .i64 6) (by kernel_rfl) (fun _ _ => by kernel_rfl) ?_
  refine S_val (.bool false) (by kernel_rfl) (fun _ _ => by kernel_rfl) ?_
  refine S_nil ?_
  refine E_then ?_
  refine C_false (by kernel_rfl) ?_
  refine C_skip ?_
  refine E_inblock ?_
  refine E_then ?_
  refine C_region ?_
  refine S_val (.int .i64 3) (by kernel_rfl) (fun _ _ => by kernel_rfl) ?_
  refine S_val (.int .i64 4) (by kernel_rfl) (fun _ _ => by kernel_rfl) ?_
  refine S_val (.int .i64 4) (by kernel_rfl) (fun _ _ => by kernel_rfl) ?_
  refine S_nil ?_
  refine E_rounds ?_
  refine R_succ ?_
  refine C_seq ?_
  refine C_seq ?_
  refine C_region ?_
  refine S_val (.int .i64 4) (by kernel_rfl) (fun _ _ => by kernel_rfl) ?_
  refine S_val (.bool true) (by kernel_rfl) (fun _ _ => by kernel_rfl) ?_
  refine S_nil ?_
  refine E_then ?_
  refine C_true (by kernel_rfl) ?_
  refine C_skip ?_
  refine E_then ?_
  refine C_seq ?_
  refine C_block ?_
  refine C_seq ?_
  refine C_region ?_
  refine S_val (.agg #[.int .i64 a]) (by kernel_rfl) (ldN [.int .i64 a] 1 b1 0 [.int .i64 a] 68 rfl (by kernel_rfl) Tryd.isAgg68 Tryd.sizeOf68 (by kernel_rfl) (by kernel_rfl)) ?_
  refine S_pure (v := .int .i64 2) (by kernel_rfl) (h ▸ c_r a) (fun _ => by kernel_rfl) ?_
  refine S_val (.int .i64 4) (by kernel_rfl) (fun _ _ => by kernel_rfl) ?_
  refine S_val (.int .i64 8) (by kernel_rfl) (fun _ _ => by kernel_rfl) ?_
  refine S_val (.int .i64 1) (by kernel_rfl) (fun _ _ => by kernel_rfl) ?_
  refine S_val (.bool true) (by kernel_rfl) (fun _ _ => by kernel_rfl) ?_
  refine S_nil ?_
  refine E_then ?_
  refine C_true (by kernel_rfl) ?_
  refine C_seq ?_
  refine C_region ?_
  refine S_val (.int .i64 4) (by kernel_rfl) (fun _ _ => by kernel_rfl) ?_
  refine S_val (.agg #[.int .i64 4]) (by kernel_rfl) (fun _ _ => by kernel_rfl) ?_
  refine S_do (by kernel_rfl) (stN (L' := [⟨b2, [.int .i64 4], 68⟩, ⟨b1, [.int .i64 a], 68⟩]) [.int .i64 4] 0 b2 0 [.int .i64 0] 68 rfl (by kernel_rfl) (by kernel_rfl) Tryd.sizeOf68 (by simp [Value.oneCell']) (by kernel_rfl) (by simp) (by kernel_rfl)) ?_
  refine S_nil ?_
  refine E_then ?_
  refine C_ret ?_
  refine E_retblock ?_
  refine E_pass_ret ?_
  refine E_pass_ret ?_
  refine E_retblock ?_
  refine E_pass_ret ?_
  exact pure_ret rfl (resC Tryd.results111 [.int .i64 4] 0 b2 68 (by kernel_rfl) Tryd.isAgg68 Tryd.sizeOf68 (by kernel_rfl))
theorem c_inv3 (a : Int) (h : a % 7 = 3) : Pure Tryd.prog 111 #[.agg #[.int .i64 a]] (.agg #[.int .i64 5]) := by
  refine pure_of Tryd.func111 rfl (fun w0 => ?_)
  refine C_seq ?_
  refine C_region ?_
  refine S_newv (fun nb0 => .pointer (some ⟨nb0, 0, none⟩)) [.int .i64 a] 68 (by kernel_rfl) (fun w _ => by kernel_rfl) ?_
  intro b1 hb1 Hb1
  refine S_newv (fun nb0 => .pointer (some ⟨nb0, 0, none⟩)) [.int .i64 0] 68 (by kernel_rfl) (fun w _ => by kernel_rfl) ?_
  intro b2 hb2 Hb2
  refine S_nil ?_
  refine E_then ?_
  refine C_seq ?_
  refine C_seq ?_
  refine C_region ?_
  refine S_val (.int .i64 1) (by kernel_rfl) (fun _ _ => by kernel_rfl) ?_
  refine S_nil ?_
  refine E_then ?_
  refine C_block ?_
  refine C_unroll 7 ?_
  refine R_succ ?_
  refine C_seq ?_
  refine C_seq ?_
  refine C_region ?_
  refine S_val (.int .i64 1) (by kernel_rfl) (fun _ _ => by kernel_rfl) ?_
  refine S_val (.bool true) (by kernel_rfl) (fun _ _ => by kernel_rfl) ?_
  refine S_nil ?_
  refine E_then ?_
  refine C_true (by kernel_rfl) ?_
  refine C_skip ?_
  refine E_then ?_
  refine C_seq ?_
  refine C_block ?_
  refine C_seq ?_
  refine C_region ?_
  refine S_val (.agg #[.int .i64 a]) (by kernel_rfl) (ldN [.int .i64 a] 1 b1 0 [.int .i64 a] 68 rfl (by kernel_rfl) Tryd.isAgg68 Tryd.sizeOf68 (by kernel_rfl) (by kernel_rfl)) ?_
  refine S_pure (v := .int .i64 3) (by kernel_rfl) (h ▸ c_r a) (fun _ => by kernel_rfl) ?_
  refine S_val (.int .i64 1) (by kernel_rfl) (fun _ _ => by kernel_rfl) ?_
  refine S_val (.int .i64 3) (by kernel_rfl) (fun _ _ => by kernel_rfl) ?_
  refine S_val (.int .i64 3) (by kernel_rfl) (fun _ _ => by kernel_rfl) ?_
  refine S_val (.bool false) (by kernel_rfl) (fun _ _ => by kernel_rfl) ?_
  refine S_nil ?_
  refine E_then ?_
  refine C_false (by kernel_rfl) ?_
  refine C_skip ?_
  refine E_inblock ?_
  refine E_then ?_
  refine C_region ?_
  refine S_val (.int .i64 1) (by kernel_rfl) (fun _ _ => by kernel_rfl) ?_
  refine S_val (.int .i64 2) (by kernel_rfl) (fun _ _ => by kernel_rfl) ?_
  refine S_val (.int .i64 2) (by kernel_rfl) (fun _ _ => by kernel_rfl) ?_
  refine S_nil ?_
  refine E_rounds ?_
  refine R_succ ?_
  refine C_seq ?_
  refine C_seq ?_
  refine C_region ?_
  refine S_val (.int .i64 2) (by kernel_rfl) (fun _ _ => by kernel_rfl) ?_
  refine S_val (.bool true) (by kernel_rfl) (fun _ _ => by kernel_rfl) ?_
  refine S_nil ?_
  refine E_then ?_
  refine C_true (by kernel_rfl) ?_
  refine C_skip ?_
  refine E_then ?_
  refine C_seq ?_
  refine C_block ?_
  refine C_seq ?_
  refine C_region ?_
  refine S_val (.agg #[.int .i64 a]) (by kernel_rfl) (ldN [.int .i64 a] 1 b1 0 [.int .i64 a] 68 rfl (by kernel_rfl) Tryd.isAgg68 Tryd.sizeOf68 (by kernel_rfl) (by kernel_rfl)) ?_
  refine S_pure (v := .int .i64 3) (by kernel_rfl) (h ▸ c_r a) (fun _ => by kernel_rfl) ?_
  refine S_val (.int .i64 2) (by kernel_rfl) (fun _ _ => by kernel_rfl) ?_
  refine S_val (.int .i64 6) (by kernel_rfl) (fun _ _ => by kernel_rfl) ?_
  refine S_val (.int .i64 6) (by kernel_rfl) (fun _ _ => by kernel_rfl) ?_
  refine S_val (.bool false) (by kernel_rfl) (fun _ _ => by kernel_rfl) ?_
  refine S_nil ?_
  refine E_then ?_
  refine C_false (by kernel_rfl) ?_
  refine C_skip ?_
  refine E_inblock ?_
  refine E_then ?_
  refine C_region ?_
  refine S_val (.int .i64 2) (by kernel_rfl) (fun _ _ => by kernel_rfl) ?_
  refine S_val (.int .i64 3) (by kernel_rfl) (fun _ _ => by kernel_rfl) ?_
  refine S_val (.int .i64 3) (by kernel_rfl) (fun _ _ => by kernel_rfl) ?_
  refine S_nil ?_
  refine E_rounds ?_
  refine R_succ ?_
  refine C_seq ?_
  refine C_seq ?_
  refine C_region ?_
  refine S_val (.int .i64 3) (by kernel_rfl) (fun _ _ => by kernel_rfl) ?_
  refine S_val (.bool true) (by kernel_rfl) (fun _ _ => by kernel_rfl) ?_
  refine S_nil ?_
  refine E_then ?_
  refine C_true (by kernel_rfl) ?_
  refine C_skip ?_
  refine E_then ?_
  refine C_seq ?_
  refine C_block ?_
  refine C_seq ?_
  refine C_region ?_
  refine S_val (.agg #[.int .i64 a]) (by kernel_rfl) (ldN [.int .i64 a] 1 b1 0 [.int .i64 a] 68 rfl (by kernel_rfl) Tryd.isAgg68 Tryd.sizeOf68 (by kernel_rfl) (by kernel_rfl)) ?_
  refine S_pure (v := .int .i64 3) (by kernel_rfl) (h ▸ c_r a) (fun _ => by kernel_rfl) ?_
  refine S_val (.int .i64 3) (by kernel_rfl) (fun _ _ => by kernel_rfl) ?_
  refine S_val (.int .i64 9) (by kernel_rfl) (fun _ _ => by kernel_rfl) ?_
  refine S_val (.int .i64 2) (by kernel_rfl) (fun _ _ => by kernel_rfl) ?_
  refine S_val (.bool false) (by kernel_rfl) (fun _ _ => by kernel_rfl) ?_
  refine S_nil ?_
  refine E_then ?_
  refine C_false (by kernel_rfl) ?_
  refine C_skip ?_
  refine E_inblock ?_
  refine E_then ?_
  refine C_region ?_
  refine S_val (.int .i64 3) (by kernel_rfl) (fun _ _ => by kernel_rfl) ?_
  refine S_val (.int .i64 4) (by kernel_rfl) (fun _ _ => by kernel_rfl) ?_
  refine S_val (.int .i64 4) (by kernel_rfl) (fun _ _ => by kernel_rfl) ?_
  refine S_nil ?_
  refine E_rounds ?_
  refine R_succ ?_
  refine C_seq ?_
  refine C_seq ?_
  refine C_region ?_
  refine S_val (.int .i64 4) (by kernel_rfl) (fun _ _ => by kernel_rfl) ?_
  refine S_val (.bool true) (by kernel_rfl) (fun _ _ => by kernel_rfl) ?_
  refine S_nil ?_
  refine E_then ?_
  refine C_true (by kernel_rfl) ?_
  refine C_skip ?_
  refine E_then ?_
  refine C_seq ?_
  refine C_block ?_
  refine C_seq ?_
  refine C_region ?_
  refine S_val (.agg #[.int .i64 a]) (by kernel_rfl) (ldN [.int .i64 a] 1 b1 0 [.int .i64 a] 68 rfl (by kernel_rfl) Tryd.isAgg68 Tryd.sizeOf68 (by kernel_rfl) (by kernel_rfl)) ?_
  refine S_pure (v := .int .i64 3) (by kernel_rfl) (h ▸ c_r a) (fun _ => by kernel_rfl) ?_
  refine S_val (.int .i64 4) (by kernel_rfl) (fun _ _ => by kernel_rfl) ?_
  refine S_val (.int .i64 12) (by kernel_rfl) (fun _ _ => by kernel_rfl) ?_
  refine S_val (.int .i64 5) (by kernel_rfl) (fun _ _ => by kernel_rfl) ?_
  refine S_val (.bool false) (by kernel_rfl) (fun _ _ => by kernel_rfl) ?_
  refine S_nil ?_
  refine E_then ?_
  refine C_false (by kernel_rfl) ?_
  refine C_skip ?_
  refine E_inblock ?_
  refine E_then ?_
  refine C_region ?_
  refine S_val (.int .i64 4) (by kernel_rfl) (fun _ _ => by kernel_rfl) ?_
  refine S_val (.int .i64 5) (by kernel_rfl) (fun _ _ => by kernel_rfl) ?_
  refine S_val (.int .i64 5) (by kernel_rfl) (fun _ _ => by kernel_rfl) ?_
  refine S_nil ?_
  refine E_rounds ?_
  refine R_succ ?_
  refine C_seq ?_
  refine C_seq ?_
  refine C_region ?_
  refine S_val (.int .i64 5) (by kernel_rfl) (fun _ _ => by kernel_rfl) ?_
  refine S_val (.bool true) (by kernel_rfl) (fun _ _ => by kernel_rfl) ?_
  refine S_nil ?_
  refine E_then ?_
  refine C_true (by kernel_rfl) ?_
  refine C_skip ?_
  refine E_then ?_
  refine C_seq ?_
  refine C_block ?_
  refine C_seq ?_
  refine C_region ?_
  refine S_val (.agg #[.int .i64 a]) (by kernel_rfl) (ldN [.int .i64 a] 1 b1 0 [.int .i64 a] 68 rfl (by kernel_rfl) Tryd.isAgg68 Tryd.sizeOf68 (by kernel_rfl) (by kernel_rfl)) ?_
  refine S_pure (v := .int .i64 3) (by kernel_rfl) (h ▸ c_r a) (fun _ => by kernel_rfl) ?_
  refine S_val (.int .i64 5) (by kernel_rfl) (fun _ _ => by kernel_rfl) ?_
  refine S_val (.int .i64 15) (by kernel_rfl) (fun _ _ => by kernel_rfl) ?_
  refine S_val (.int .i64 1) (by kernel_rfl) (fun _ _ => by kernel_rfl) ?_
  refine S_val (.bool true) (by kernel_rfl) (fun _ _ => by kernel_rfl) ?_
  refine S_nil ?_
  refine E_then ?_
  refine C_true (by kernel_rfl) ?_
  refine C_seq ?_
  refine C_region ?_
  refine S_val (.int .i64 5) (by kernel_rfl) (fun _ _ => by kernel_rfl) ?_
  refine S_val (.agg #[.int .i64 5]) (by kernel_rfl) (fun _ _ => by kernel_rfl) ?_
  refine S_do (by kernel_rfl) (stN (L' := [⟨b2, [.int .i64 5], 68⟩, ⟨b1, [.int .i64 a], 68⟩]) [.int .i64 5] 0 b2 0 [.int .i64 0] 68 rfl (by kernel_rfl) (by kernel_rfl) Tryd.sizeOf68 (by simp [Value.oneCell']) (by kernel_rfl) (by simp) (by kernel_rfl)) ?_
  refine S_nil ?_
  refine E_then ?_
  refine C_ret ?_
  refine E_retblock ?_
  refine E_pass_ret ?_
  refine E_pass_ret ?_
  refine E_retblock ?_
  refine E_pass_ret ?_
  exact pure_ret rfl (resC Tryd.results111 [.int .i64 5] 0 b2 68 (by kernel_rfl) Tryd.isAgg68 Tryd.sizeOf68 (by kernel_rfl))
theorem c_inv4 (a : Int) (h : a % 7 = 4) : Pure Tryd.prog 111 #[.agg #[.int .i64 a]] (.agg #[.int .i64 2]) := by
  refine pure_of Tryd.func111 rfl (fun w0 => ?_)
  refine C_seq ?_
  refine C_region ?_
  refine S_newv (fun nb0 => .pointer (some ⟨nb0, 0, none⟩)) [.int .i64 a] 68 (by kernel_rfl) (fun w _ => by kernel_rfl) ?_
  intro b1 hb1 Hb1
  refine S_newv (fun nb0 => .pointer (some ⟨nb0, 0, none⟩)) [.int .i64 0] 68 (by kernel_rfl) (fun w _ => by kernel_rfl) ?_
  intro b2 hb2 Hb2
  refine S_nil ?_
  refine E_then ?_
  refine C_seq ?_
  refine C_seq ?_
  refine C_region ?_
  refine S_val (.int .i64 1) (by kernel_rfl) (fun _ _ => by kernel_rfl) ?_
  refine S_nil ?_
  refine E_then ?_
  refine C_block ?_
  refine C_unroll 7 ?_
  refine R_succ ?_
  refine C_seq ?_
  refine C_seq ?_
  refine C_region ?_
  refine S_val (.int .i64 1) (by kernel_rfl) (fun _ _ => by kernel_rfl) ?_
  refine S_val (.bool true) (by kernel_rfl) (fun _ _ => by kernel_rfl) ?_
  refine S_nil ?_
  refine E_then ?_
  refine C_true (by kernel_rfl) ?_
  refine C_skip ?_
  refine E_then ?_
  refine C_seq ?_
  refine C_block ?_
  refine C_seq ?_
  refine C_region ?_
  refine S_val (.agg #[.int .i64 a]) (by kernel_rfl) (ldN [.int .i64 a] 1 b1 0 [.int .i64 a] 68 rfl (by kernel_rfl) Tryd.isAgg68 Tryd.sizeOf68 (by kernel_rfl) (by kernel_rfl)) ?_
  refine S_pure (v := .int .i64 4) (by kernel_rfl) (h ▸ c_r a) (fun _ => by kernel_rfl) ?_
  refine S_val (.int .i64 1) (by kernel_rfl) (fun _ _ => by kernel_rfl) ?_
  refine S_val (.int .i64 4) (by kernel_rfl) (fun _ _ => by kernel_rfl) ?_
  refine S_val (.int .i64 4) (by kernel_rfl) (fun _ _ => by kernel_rfl) ?_
  refine S_val (.bool false) (by kernel_rfl) (fun _ _ => by kernel_rfl) ?_
  refine S_nil ?_
  refine E_then ?_
  refine C_false (by kernel_rfl) ?_
  refine C_skip ?_
  refine E_inblock ?_
  refine E_then ?_
  refine C_region ?_
  refine S_val (.int .i64 1) (by kernel_rfl) (fun _ _ => by kernel_rfl) ?_
  refine S_val (.int .i64 2) (by kernel_rfl) (fun _ _ => by kernel_rfl) ?_
  refine S_val (.int .i64 2) (by kernel_rfl) (fun _ _ => by kernel_rfl) ?_
  refine S_nil ?_
  refine E_rounds ?_
  refine R_succ ?_
  refine C_seq ?_
  refine C_seq ?_
  refine C_region ?_
  refine S_val (.int .i64 2) (by kernel_rfl) (fun _ _ => by kernel_rfl) ?_
  refine S_val (.bool true) (by kernel_rfl) (fun _ _ => by kernel_rfl) ?_
  refine S_nil ?_
  refine E_then ?_
  refine C_true (by kernel_rfl) ?_
  refine C_skip ?_
  refine E_then ?_
  refine C_seq ?_
  refine C_block ?_
  refine C_seq ?_
  refine C_region ?_
  refine S_val (.agg #[.int .i64 a]) (by kernel_rfl) (ldN [.int .i64 a] 1 b1 0 [.int .i64 a] 68 rfl (by kernel_rfl) Tryd.isAgg68 Tryd.sizeOf68 (by kernel_rfl) (by kernel_rfl)) ?_
  refine S_pure (v := .int .i64 4) (by kernel_rfl) (h ▸ c_r a) (fun _ => by kernel_rfl) ?_
  refine S_val (.int .i64 2) (by kernel_rfl) (fun _ _ => by kernel_rfl) ?_
  refine S_val (.int .i64 8) (by kernel_rfl) (fun _ _ => by kernel_rfl) ?_
  refine S_val (.int .i64 1) (by kernel_rfl) (fun _ _ => by kernel_rfl) ?_
  refine S_val (.bool true) (by kernel_rfl) (fun _ _ => by kernel_rfl) ?_
  refine S_nil ?_
  refine E_then ?_
  refine C_true (by kernel_rfl) ?_
  refine C_seq ?_
  refine C_region ?_
  refine S_val (.int .i64 2) (by kernel_rfl) (fun _ _ => by kernel_rfl) ?_
  refine S_val (.agg #[.int .i64 2]) (by kernel_rfl) (fun _ _ => by kernel_rfl) ?_
  refine S_do (by kernel_rfl) (stN (L' := [⟨b2, [.int .i64 2], 68⟩, ⟨b1, [.int .i64 a], 68⟩]) [.int .i64 2] 0 b2 0 [.int .i64 0] 68 rfl (by kernel_rfl) (by kernel_rfl) Tryd.sizeOf68 (by simp [Value.oneCell']) (by kernel_rfl) (by simp) (by kernel_rfl)) ?_
  refine S_nil ?_
  refine E_then ?_
  refine C_ret ?_
  refine E_retblock ?_
  refine E_pass_ret ?_
  refine E_pass_ret ?_
  refine E_retblock ?_
  refine E_pass_ret ?_
  exact pure_ret rfl (resC Tryd.results111 [.int .i64 2] 0 b2 68 (by kernel_rfl) Tryd.isAgg68 Tryd.sizeOf68 (by kernel_rfl))
theorem c_inv5 (a : Int) (h : a % 7 = 5) : Pure Tryd.prog 111 #[.agg #[.int .i64 a]] (.agg #[.int .i64 3]) := by
  refine pure_of Tryd.func111 rfl (fun w0 => ?_)
  refine C_seq ?_
  refine C_region ?_
  refine S_newv (fun nb0 => .pointer (some ⟨nb0, 0, none⟩)) [.int .i64 a] 68 (by kernel_rfl) (fun w _ => by kernel_rfl) ?_
  intro b1 hb1 Hb1
  refine S_newv (fun nb0 => .pointer (some ⟨nb0, 0, none⟩)) [.int .i64 0] 68 (by kernel_rfl) (fun w _ => by kernel_rfl) ?_
  intro b2 hb2 Hb2
  refine S_nil ?_
  refine E_then ?_
  refine C_seq ?_
  refine C_seq ?_
  refine C_region ?_
  refine S_val (.int .i64 1) (by kernel_rfl) (fun _ _ => by kernel_rfl) ?_
  refine S_nil ?_
  refine E_then ?_
  refine C_block ?_
  refine C_unroll 7 ?_
  refine R_succ ?_
  refine C_seq ?_
  refine C_seq ?_
  refine C_region ?_
  refine S_val (.int .i64 1) (by kernel_rfl) (fun _ _ => by kernel_rfl) ?_
  refine S_val (.bool true) (by kernel_rfl) (fun _ _ => by kernel_rfl) ?_
  refine S_nil ?_
  refine E_then ?_
  refine C_true (by kernel_rfl) ?_
  refine C_skip ?_
  refine E_then ?_
  refine C_seq ?_
  refine C_block ?_
  refine C_seq ?_
  refine C_region ?_
  refine S_val (.agg #[.int .i64 a]) (by kernel_rfl) (ldN [.int .i64 a] 1 b1 0 [.int .i64 a] 68 rfl (by kernel_rfl) Tryd.isAgg68 Tryd.sizeOf68 (by kernel_rfl) (by kernel_rfl)) ?_
  refine S_pure (v := .int .i64 5) (by kernel_rfl) (h ▸ c_r a) (fun _ => by kernel_rfl) ?_
  refine S_val (.int .i64 1) (by kernel_rfl) (fun _ _ => by kernel_rfl) ?_
  refine S_val (.int .i64 5) (by kernel_rfl) (fun _ _ => by kernel_rfl) ?_
  refine S_val (.int .i64 5) (by kernel_rfl) (fun _ _ => by kernel_rfl) ?_
  refine S_val (.bool false) (by kernel_rfl) (fun _ _ => by kernel_rfl) ?_
  refine S_nil ?_
  refine E_then ?_
  refine C_false (by kernel_rfl) ?_
  refine C_skip ?_
  refine E_inblock ?_
  refine E_then ?_
  refine C_region ?_
  refine S_val (.int .i64 1) (by kernel_rfl) (fun _ _ => by kernel_rfl) ?_
  refine S_val (.int .i64 2) (by kernel_rfl) (fun _ _ => by kernel_rfl) ?_
  refine S_val (.int .i64 2) (by kernel_rfl) (fun _ _ => by kernel_rfl) ?_
  refine S_nil ?_
  refine E_rounds ?_
  refine R_succ ?_
  refine C_seq ?_
  refine C_seq ?_
  refine C_region ?_
  refine S_val (.int .i64 2) (by kernel_rfl) (fun _ _ => by kernel_rfl) ?_
  refine S_val (.bool true) (by kernel_rfl) (fun _ _ => by kernel_rfl) ?_
  refine S_nil ?_
  refine E_then ?_
  refine C_true (by kernel_rfl) ?_
  refine C_skip ?_
  refine E_then ?_
  refine C_seq ?_
  refine C_block ?_
  refine C_seq ?_
  refine C_region ?_
  refine S_val (.agg #[.int .i64 a]) (by kernel_rfl) (ldN [.int .i64 a] 1 b1 0 [.int .i64 a] 68 rfl (by kernel_rfl) Tryd.isAgg68 Tryd.sizeOf68 (by kernel_rfl) (by kernel_rfl)) ?_
  refine S_pure (v := .int .i64 5) (by kernel_rfl) (h ▸ c_r a) (fun _ => by kernel_rfl) ?_
  refine S_val (.int .i64 2) (by kernel_rfl) (fun _ _ => by kernel_rfl) ?_
  refine S_val (.int .i64 10) (by kernel_rfl) (fun _ _ => by kernel_rfl) ?_
  refine S_val (.int .i64 3) (by kernel_rfl) (fun _ _ => by kernel_rfl) ?_
  refine S_val (.bool false) (by kernel_rfl) (fun _ _ => by kernel_rfl) ?_
  refine S_nil ?_
  refine E_then ?_
  refine C_false (by kernel_rfl) ?_
  refine C_skip ?_
  refine E_inblock ?_
  refine E_then ?_
  refine C_region ?_
  refine S_val (.int .i64 2) (by kernel_rfl) (fun _ _ => by kernel_rfl) ?_
  refine S_val (.int .i64 3) (by kernel_rfl) (fun _ _ => by kernel_rfl) ?_
  refine S_val (.int .i64 3) (by kernel_rfl) (fun _ _ => by kernel_rfl) ?_
  refine S_nil ?_
  refine E_rounds ?_
  refine R_succ ?_
  refine C_seq ?_
  refine C_seq ?_
  refine C_region ?_
  refine S_val (.int .i64 3) (by kernel_rfl) (fun _ _ => by kernel_rfl) ?_
  refine S_val (.bool true) (by kernel_rfl) (fun _ _ => by kernel_rfl) ?_
  refine S_nil ?_
  refine E_then ?_
  refine C_true (by kernel_rfl) ?_
  refine C_skip ?_
  refine E_then ?_
  refine C_seq ?_
  refine C_block ?_
  refine C_seq ?_
  refine C_region ?_
  refine S_val (.agg #[.int .i64 a]) (by kernel_rfl) (ldN [.int .i64 a] 1 b1 0 [.int .i64 a] 68 rfl (by kernel_rfl) Tryd.isAgg68 Tryd.sizeOf68 (by kernel_rfl) (by kernel_rfl)) ?_
  refine S_pure (v := .int .i64 5) (by kernel_rfl) (h ▸ c_r a) (fun _ => by kernel_rfl) ?_
  refine S_val (.int .i64 3) (by kernel_rfl) (fun _ _ => by kernel_rfl) ?_
  refine S_val (.int .i64 15) (by kernel_rfl) (fun _ _ => by kernel_rfl) ?_
  refine S_val (.int .i64 1) (by kernel_rfl) (fun _ _ => by kernel_rfl) ?_
  refine S_val (.bool true) (by kernel_rfl) (fun _ _ => by kernel_rfl) ?_
  refine S_nil ?_
  refine E_then ?_
  refine C_true (by kernel_rfl) ?_
  refine C_seq ?_
  refine C_region ?_
  refine S_val (.int .i64 3) (by kernel_rfl) (fun _ _ => by kernel_rfl) ?_
  refine S_val (.agg #[.int .i64 3]) (by kernel_rfl) (fun _ _ => by kernel_rfl) ?_
  refine S_do (by kernel_rfl) (stN (L' := [⟨b2, [.int .i64 3], 68⟩, ⟨b1, [.int .i64 a], 68⟩]) [.int .i64 3] 0 b2 0 [.int .i64 0] 68 rfl (by kernel_rfl) (by kernel_rfl) Tryd.sizeOf68 (by simp [Value.oneCell']) (by kernel_rfl) (by simp) (by kernel_rfl)) ?_
  refine S_nil ?_
  refine E_then ?_
  refine C_ret ?_
  refine E_retblock ?_
  refine E_pass_ret ?_
  refine E_pass_ret ?_
  refine E_retblock ?_
  refine E_pass_ret ?_
  exact pure_ret rfl (resC Tryd.results111 [.int .i64 3] 0 b2 68 (by kernel_rfl) Tryd.isAgg68 Tryd.sizeOf68 (by kernel_rfl))
theorem c_inv6 (a : Int) (h : a % 7 = 6) : Pure Tryd.prog 111 #[.agg #[.int .i64 a]] (.agg #[.int .i64 6]) := by
  refine pure_of Tryd.func111 rfl (fun w0 => ?_)
  refine C_seq ?_
  refine C_region ?_
  refine S_newv (fun nb0 => .pointer (some ⟨nb0, 0, none⟩)) [.int .i64 a] 68 (by kernel_rfl) (fun w _ => by kernel_rfl) ?_
  intro b1 hb1 Hb1
  refine S_newv (fun nb0 => .pointer (some ⟨nb0, 0, none⟩)) [.int .i64 0] 68 (by kernel_rfl) (fun w _ => by kernel_rfl) ?_
  intro b2 hb2 Hb2
  refine S_nil ?_
  refine E_then ?_
  refine C_seq ?_
  refine C_seq ?_
  refine C_region ?_
  refine S_val (.int .i64 1) (by kernel_rfl) (fun _ _ => by kernel_rfl) ?_
  refine S_nil ?_
  refine E_then ?_
  refine C_block ?_
  refine C_unroll 7 ?_
  refine R_succ ?_
  refine C_seq ?_
  refine C_seq ?_
  refine C_region ?_
  refine S_val (.int .i64 1) (by kernel_rfl) (fun _ _ => by kernel_rfl) ?_
  refine S_val (.bool true) (by kernel_rfl) (fun _ _ => by kernel_rfl) ?_
  refine S_nil ?_
  refine E_then ?_
  refine C_true (by kernel_rfl) ?_
  refine C_skip ?_
  refine E_then ?_
  refine C_seq ?_
  refine C_block ?_
  refine C_seq ?_
  refine C_region ?_
  refine S_val (.agg #[.int .i64 a]) (by kernel_rfl) (ldN [.int .i64 a] 1 b1 0 [.int .i64 a] 68 rfl (by kernel_rfl) Tryd.isAgg68 Tryd.sizeOf68 (by kernel_rfl) (by kernel_rfl)) ?_
  refine S_pure (v := .int .i64 6) (by kernel_rfl) (h ▸ c_r a) (fun _ => by kernel_rfl) ?_
  refine S_val (.int .i64 1) (by kernel_rfl) (fun _ _ => by kernel_rfl) ?_
  refine S_val (.int .i64 6) (by kernel_rfl) (fun _ _ => by kernel_rfl) ?_
  refine S_val (.int .i64 6) (by kernel_rfl) (fun _ _ => by kernel_rfl) ?_
  refine S_val (.bool false) (by kernel_rfl) (fun _ _ => by kernel_rfl) ?_
  refine S_nil ?_
  refine E_then ?_
  refine C_false (by kernel_rfl) ?_
  refine C_skip ?_
  refine E_inblock ?_
  refine E_then ?_
  refine C_region ?_
  refine S_val (.int .i64 1) (by kernel_rfl) (fun _ _ => by kernel_rfl) ?_
  refine S_val (.int .i64 2) (by kernel_rfl) (fun _ _ => by kernel_rfl) ?_
  refine S_val (.int .i64 2) (by kernel_rfl) (fun _ _ => by kernel_rfl) ?_
  refine S_nil ?_
  refine E_rounds ?_
  refine R_succ ?_
  refine C_seq ?_
  refine C_seq ?_
  refine C_region ?_
  refine S_val (.int .i64 2) (by kernel_rfl) (fun _ _ => by kernel_rfl) ?_
  refine S_val (.bool true) (by kernel_rfl) (fun _ _ => by kernel_rfl) ?_
  refine S_nil ?_
  refine E_then ?_
  refine C_true (by kernel_rfl) ?_
  refine C_skip ?_
  refine E_then ?_
  refine C_seq ?_
  refine C_block ?_
  refine C_seq ?_
  refine C_region ?_
  refine S_val (.agg #[.int .i64 a]) (by kernel_rfl) (ldN [.int .i64 a] 1 b1 0 [.int .i64 a] 68 rfl (by kernel_rfl) Tryd.isAgg68 Tryd.sizeOf68 (by kernel_rfl) (by kernel_rfl)) ?_
  refine S_pure (v := .int .i64 6) (by kernel_rfl) (h ▸ c_r a) (fun _ => by kernel_rfl) ?_
  refine S_val (.int .i64 2) (by kernel_rfl) (fun _ _ => by kernel_rfl) ?_
  refine S_val (.int .i64 12) (by kernel_rfl) (fun _ _ => by kernel_rfl) ?_
  refine S_val (.int .i64 5) (by kernel_rfl) (fun _ _ => by kernel_rfl) ?_
  refine S_val (.bool false) (by kernel_rfl) (fun _ _ => by kernel_rfl) ?_
  refine S_nil ?_
  refine E_then ?_
  refine C_false (by kernel_rfl) ?_
  refine C_skip ?_
  refine E_inblock ?_
  refine E_then ?_
  refine C_region ?_
  refine S_val (.int .i64 2) (by kernel_rfl) (fun _ _ => by kernel_rfl) ?_
  refine S_val (.int .i64 3) (by kernel_rfl) (fun _ _ => by kernel_rfl) ?_
  refine S_val (.int .i64 3) (by kernel_rfl) (fun _ _ => by kernel_rfl) ?_
  refine S_nil ?_
  refine E_rounds ?_
  refine R_succ ?_
  refine C_seq ?_
  refine C_seq ?_
  refine C_region ?_
  refine S_val (.int .i64 3) (by kernel_rfl) (fun _ _ => by kernel_rfl) ?_
  refine S_val (.bool true) (by kernel_rfl) (fun _ _ => by kernel_rfl) ?_
  refine S_nil ?_
  refine E_then ?_
  refine C_true (by kernel_rfl) ?_
  refine C_skip ?_
  refine E_then ?_
  refine C_seq ?_
  refine C_block ?_
  refine C_seq ?_
  refine C_region ?_
  refine S_val (.agg #[.int .i64 a]) (by kernel_rfl) (ldN [.int .i64 a] 1 b1 0 [.int .i64 a] 68 rfl (by kernel_rfl) Tryd.isAgg68 Tryd.sizeOf68 (by kernel_rfl) (by kernel_rfl)) ?_
  refine S_pure (v := .int .i64 6) (by kernel_rfl) (h ▸ c_r a) (fun _ => by kernel_rfl) ?_
  refine S_val (.int .i64 3) (by kernel_rfl) (fun _ _ => by kernel_rfl) ?_
  refine S_val (.int .i64 18) (by kernel_rfl) (fun _ _ => by kernel_rfl) ?_
  refine S_val (.int .i64 4) (by kernel_rfl) (fun _ _ => by kernel_rfl) ?_
  refine S_val (.bool false) (by kernel_rfl) (fun _ _ => by kernel_rfl) ?_
  refine S_nil ?_
  refine E_then ?_
  refine C_false (by kernel_rfl) ?_
  refine C_skip ?_
  refine E_inblock ?_
  refine E_then ?_
  refine C_region ?_
  refine S_val (.int .i64 3) (by kernel_rfl) (fun _ _ => by kernel_rfl) ?_
  refine S_val (.int .i64 4) (by kernel_rfl) (fun _ _ => by kernel_rfl) ?_
  refine S_val (.int .i64 4) (by kernel_rfl) (fun _ _ => by kernel_rfl) ?_
  refine S_nil ?_
  refine E_rounds ?_
  refine R_succ ?_
  refine C_seq ?_
  refine C_seq ?_
  refine C_region ?_
  refine S_val (.int .i64 4) (by kernel_rfl) (fun _ _ => by kernel_rfl) ?_
  refine S_val (.bool true) (by kernel_rfl) (fun _ _ => by kernel_rfl) ?_
  refine S_nil ?_
  refine E_then ?_
  refine C_true (by kernel_rfl) ?_
  refine C_skip ?_
  refine E_then ?_
  refine C_seq ?_
  refine C_block ?_
  refine C_seq ?_
  refine C_region ?_
  refine S_val (.agg #[.int .i64 a]) (by kernel_rfl) (ldN [.int .i64 a] 1 b1 0 [.int .i64 a] 68 rfl (by kernel_rfl) Tryd.isAgg68 Tryd.sizeOf68 (by kernel_rfl) (by kernel_rfl)) ?_
  refine S_pure (v := .int .i64 6) (by kernel_rfl) (h ▸ c_r a) (fun _ => by kernel_rfl) ?_
  refine S_val (.int .i64 4) (by kernel_rfl) (fun _ _ => by kernel_rfl) ?_
  refine S_val (.int .i64 24) (by kernel_rfl) (fun _ _ => by kernel_rfl) ?_
  refine S_val (.int .i64 3) (by kernel_rfl) (fun _ _ => by kernel_rfl) ?_
  refine S_val (.bool false) (by kernel_rfl) (fun _ _ => by kernel_rfl) ?_
  refine S_nil ?_
  refine E_then ?_
  refine C_false (by kernel_rfl) ?_
  refine C_skip ?_
  refine E_inblock ?_
  refine E_then ?_
  refine C_region ?_
  refine S_val (.int .i64 4) (by kernel_rfl) (fun _ _ => by kernel_rfl) ?_
  refine S_val (.int .i64 5) (by kernel_rfl) (fun _ _ => by kernel_rfl) ?_
  refine S_val (.int .i64 5) (by kernel_rfl) (fun _ _ => by kernel_rfl) ?_
  refine S_nil ?_
  refine E_rounds ?_
  refine R_succ ?_
  refine C_seq ?_
  refine C_seq ?_
  refine C_region ?_
  refine S_val (.int .i64 5) (by kernel_rfl) (fun _ _ => by kernel_rfl) ?_
  refine S_val (.bool true) (by kernel_rfl) (fun _ _ => by kernel_rfl) ?_
  refine S_nil ?_
  refine E_then ?_
  refine C_true (by kernel_rfl) ?_
  refine C_skip ?_
  refine E_then ?_
  refine C_seq ?_
  refine C_block ?_
  refine C_seq ?_
  refine C_region ?_
  refine S_val (.agg #[.int .i64 a]) (by kernel_rfl) (ldN [.int .i64 a] 1 b1 0 [.int .i64 a] 68 rfl (by kernel_rfl) Tryd.isAgg68 Tryd.sizeOf68 (by kernel_rfl) (by kernel_rfl)) ?_
  refine S_pure (v := .int .i64 6) (by kernel_rfl) (h ▸ c_r a) (fun _ => by kernel_rfl) ?_
  refine S_val (.int .i64 5) (by kernel_rfl) (fun _ _ => by kernel_rfl) ?_
  refine S_val (.int .i64 30) (by kernel_rfl) (fun _ _ => by kernel_rfl) ?_
  refine S_val (.int .i64 2) (by kernel_rfl) (fun _ _ => by kernel_rfl) ?_
  refine S_val (.bool false) (by kernel_rfl) (fun _ _ => by kernel_rfl) ?_
  refine S_nil ?_
  refine E_then ?_
  refine C_false (by kernel_rfl) ?_
  refine C_skip ?_
  refine E_inblock ?_
  refine E_then ?_
  refine C_region ?_
  refine S_val (.int .i64 5) (by kernel_rfl) (fun _ _ => by kernel_rfl) ?_
  refine S_val (.int .i64 6) (by kernel_rfl) (fun _ _ => by kernel_rfl) ?_
  refine S_val (.int .i64 6) (by kernel_rfl) (fun _ _ => by kernel_rfl) ?_
  refine S_nil ?_
  refine E_rounds ?_
  refine R_succ ?_
  refine C_seq ?_
  refine C_seq ?_
  refine C_region ?_
  refine S_val (.int .i64 6) (by kernel_rfl) (fun _ _ => by kernel_rfl) ?_
  refine S_val (.bool true) (by kernel_rfl) (fun _ _ => by kernel_rfl) ?_
  refine S_nil ?_
  refine E_then ?_
  refine C_true (by kernel_rfl) ?_
  refine C_skip ?_
  refine E_then ?_
  refine C_seq ?_
  refine C_block ?_
  refine C_seq ?_
  refine C_region ?_
  refine S_val (.agg #[.int .i64 a]) (by kernel_rfl) (ldN [.int .i64 a] 1 b1 0 [.int .i64 a] 68 rfl (by kernel_rfl) Tryd.isAgg68 Tryd.sizeOf68 (by kernel_rfl) (by kernel_rfl)) ?_
  refine S_pure (v := .int .i64 6) (by kernel_rfl) (h ▸ c_r a) (fun _ => by kernel_rfl) ?_
  refine S_val (.int .i64 6) (by kernel_rfl) (fun _ _ => by kernel_rfl) ?_
  refine S_val (.int .i64 36) (by kernel_rfl) (fun _ _ => by kernel_rfl) ?_
  refine S_val (.int .i64 1) (by kernel_rfl) (fun _ _ => by kernel_rfl) ?_
  refine S_val (.bool true) (by kernel_rfl) (fun _ _ => by kernel_rfl) ?_
  refine S_nil ?_
  refine E_then ?_
  refine C_true (by kernel_rfl) ?_
  refine C_seq ?_
  refine C_region ?_
  refine S_val (.int .i64 6) (by kernel_rfl) (fun _ _ => by kernel_rfl) ?_
  refine S_val (.agg #[.int .i64 6]) (by kernel_rfl) (fun _ _ => by kernel_rfl) ?_
  refine S_do (by kernel_rfl) (stN (L' := [⟨b2, [.int .i64 6], 68⟩, ⟨b1, [.int .i64 a], 68⟩]) [.int .i64 6] 0 b2 0 [.int .i64 0] 68 rfl (by kernel_rfl) (by kernel_rfl) Tryd.sizeOf68 (by simp [Value.oneCell']) (by kernel_rfl) (by simp) (by kernel_rfl)) ?_
  refine S_nil ?_
  refine E_then ?_
  refine C_ret ?_
  refine E_retblock ?_
  refine E_pass_ret ?_
  refine E_pass_ret ?_
  refine E_retblock ?_
  refine E_pass_ret ?_
  exact pure_ret rfl (resC Tryd.results111 [.int .i64 6] 0 b2 68 (by kernel_rfl) Tryd.isAgg68 Tryd.sizeOf68 (by kernel_rfl))
theorem c_inv (a : Int) : Pure Tryd.prog 111 #[.agg #[.int .i64 a]] (.agg #[.int .i64 (iv a)]) := by
  unfold iv
  rcases mod7 a with h | h | h | h | h | h | h
  · rw [h]; exact c_inv0 a h
  · rw [h]; exact c_inv1 a h
  · rw [h]; exact c_inv2 a h
  · rw [h]; exact c_inv3 a h
  · rw [h]; exact c_inv4 a h
  · rw [h]; exact c_inv5 a h
  · rw [h]; exact c_inv6 a h
theorem c_eval (w0 : World) (v : Value) (xs : List Int) (x : Int) (hv : Rd w0 v 1 f7 xs) (hl : xs.length ≤ 1152921504606846976) : Calls Tryd.prog 28 #[v, .agg #[.int .i64 x]] w0 fun e w' => e = .returned (.agg #[.int .i64 (ev7 xs x)]) ∧ Below w0.heap.size w0 w' := by
  obtain ⟨ao, cap, rfl, hx⟩ := hv.o
  refine calls_start Tryd.func28 rfl ?_
  refine C_seq ?_
  refine C_region ?_
  refine S_newv (fun nb0 => .pointer (some ⟨nb0, 0, none⟩)) [.int .i64 x] 68 (by kernel_rfl) (fun w _ => by kernel_rfl) ?_
  intro b1 hb1 Hb1
  refine S_newv (fun nb0 => .pointer (some ⟨nb0, 0, none⟩)) [.int .i64 0] 68 (by kernel_rfl) (fun w _ => by kernel_rfl) ?_
  intro b2 hb2 Hb2
  refine S_nil ?_
  refine E_then ?_
  refine C_seq ?_
  refine C_region ?_
  refine S_newv (fun nb0 => .pointer (some ⟨nb0, 0, none⟩)) [.int .i64 0] 68 (by kernel_rfl) (fun w _ => by kernel_rfl) ?_
  intro b3 hb3 Hb3
  refine S_nil ?_
  refine E_then ?_
  refine C_seq ?_
  refine C_seq ?_
  refine C_region ?_
  refine S_val (.slice ao xs.length cap) (by kernel_rfl) (fun _ _ => by kernel_rfl) ?_
  refine S_val (.int .i64 ((xs.length : Nat) : Int)) (by kernel_rfl) (fun _ _ => by kernel_rfl) ?_
  refine S_val (.int .i64 (((xs.length : Nat) : Int) - 1)) (by kernel_rfl) (fun _ _ => fv (v := .int .i64 (IntKind.i64.wrap (((xs.length : Nat) : Int) - 1))) (vint (w64 rfl (by omega) (by omega))) (by kernel_rfl)) ?_
  refine S_val (.int .i64 (((xs.length : Nat) : Int) - 1)) (by kernel_rfl) (fun _ _ => by kernel_rfl) ?_
  refine S_nil ?_
  refine E_then ?_
  refine C_block ?_
  refine C_loop1 (fun (m : Nat) => (m ≤ xs.length)) (fun (m : Nat) => fun g => ⟨#[.slice ao xs.length cap, g 1, g 2, .pointer (some ⟨b1, 0, none⟩), .pointer (some ⟨b2, 0, none⟩), .pointer (some ⟨b3, 0, none⟩), .int .i64 (((m : Nat) : Int) - 1), g 7, g 8, g 9, g 10, g 11, g 12, g 13, g 14, g 15, g 16, g 17, g 18, g 19, g 20, g 21, g 22, g 23, g 24], []⟩) (fun (m : Nat) => [⟨b3, [.int .i64 (ev7 (xs.drop m) x)], 68⟩, ⟨b2, [.int .i64 0], 68⟩, ⟨b1, [.int .i64 x], 68⟩]) (fun (m : Nat) => m) xs.length (by (try dsimp only); exact Nat.le_refl _) (by kernel_rfl) (by first | (dsimp only; done) | ((try dsimp only); simp [ev7])) ?_
  rintro m g4 hm
  refine C_seq ?_
  refine C_seq ?_
  refine C_region ?_
  refine S_val (.int .i64 (((m : Nat) : Int) - 1)) (by kernel_rfl) (fun _ _ => by kernel_rfl) ?_
  refine S_val (.bool (decide (((m : Nat) : Int) - 1 ≥ 0))) (by kernel_rfl) (fun _ _ => by kernel_rfl) ?_
  refine S_nil ?_
  refine E_then ?_
  refine C_if (decide (((m : Nat) : Int) - 1 ≥ 0)) (by kernel_rfl) (fun hc => ?_) (fun hc => ?_)
  · replace hc := of_decide_eq_true hc
    obtain ⟨k, rfl⟩ : ∃ k, m = k + 1 := ⟨m - 1, by omega⟩
    obtain ⟨bi5, oi6, rfl, hi7⟩ := hx.op (by omega)
    refine C_skip ?_
    refine E_then ?_
    refine C_seq ?_
    refine C_block ?_
    refine C_drawn [.held, .pure, .held, .held, .pure, .pure, .pure, .pure, .held, .held, .eff] (by kernel_rfl) (by kernel_rfl) ?_
    refine D_held (.agg #[.int .i64 (ev7 (xs.drop (k + 1)) x)]) (by kernel_rfl) (ldN [.int .i64 (ev7 (xs.drop (k + 1)) x)] 0 b3 0 [.int .i64 (ev7 (xs.drop (k + 1)) x)] 68 rfl (by kernel_rfl) Tryd.isAgg68 Tryd.sizeOf68 (by kernel_rfl) (by kernel_rfl)) ?_
    refine D_val (.iface 68 (.agg #[.int .i64 (ev7 (xs.drop (k + 1)) x)])) (by kernel_rfl) (fun _ => by kernel_rfl) ?_
    refine D_held (.agg #[.int .i64 x]) (by kernel_rfl) (ldN [.int .i64 x] 2 b1 0 [.int .i64 x] 68 rfl (by kernel_rfl) Tryd.isAgg68 Tryd.sizeOf68 (by kernel_rfl) (by kernel_rfl)) ?_
    refine D_pure (v := .agg #[.int .i64 (mu (ev7 (xs.drop (k + 1)) x) x)]) (by kernel_rfl) (c_mul (ev7 (xs.drop (k + 1)) x) x) (fun _ => by kernel_rfl) ?_
    refine D_val (.iface 68 (.agg #[.int .i64 (mu (ev7 (xs.drop (k + 1)) x) x)])) (by kernel_rfl) (fun _ => by kernel_rfl) ?_
    refine D_val (.slice (some ⟨bi5, oi6, none⟩) xs.length cap) (by kernel_rfl) (fun _ => by kernel_rfl) ?_
    refine D_val (.int .i64 ((k : Nat) : Int)) (by kernel_rfl) (fun _ => fv (v := .int .i64 (((k + 1 : Nat) : Int) - 1)) (vint (by omega)) (by kernel_rfl)) ?_
    refine D_val (.pointer (some ⟨bi5, oi6 + k * 1, none⟩)) (by kernel_rfl) (ixS (k := .i64) bi5 oi6 xs.length cap 1 k rfl (by kernel_rfl) (by kernel_rfl) Tryd.underlying64 Tryd.sizeOf68 (by omega)) ?_
    refine D_held (.agg #[.int .i64 (xs.getD k 0)]) (by kernel_rfl) (ldR f7_len 0 k bi5 oi6 (oi6 + k * 1) hi7 rfl (by kernel_rfl) rfl (by omega) Tryd.isAgg68 Tryd.sizeOf68) ?_
    refine D_pure (v := .agg #[.int .i64 (ad (mu (ev7 (xs.drop (k + 1)) x) x) (xs.getD k 0))]) (by kernel_rfl) (c_add (mu (ev7 (xs.drop (k + 1)) x) x) (xs.getD k 0)) (fun _ => by kernel_rfl) ?_
    refine D_do (by kernel_rfl) (stN (L' := [⟨b3, [.int .i64 (ad (mu (ev7 (xs.drop (k + 1)) x) x) (xs.getD k 0))], 68⟩, ⟨b2, [.int .i64 0], 68⟩, ⟨b1, [.int .i64 x], 68⟩]) [.int .i64 (ad (mu (ev7 (xs.drop (k + 1)) x) x) (xs.getD k 0))] 0 b3 0 [.int .i64 (ev7 (xs.drop (k + 1)) x)] 68 rfl (by kernel_rfl) (by kernel_rfl) Tryd.sizeOf68 (by simp [Value.oneCell']) (by kernel_rfl) (by simp) (by kernel_rfl)) ?_
    refine D_nil ?_
    refine E_inblock ?_
    refine E_then ?_
    refine C_region ?_
    refine S_val (.int .i64 (((k + 1 : Nat) : Int) - 1)) (by kernel_rfl) (fun _ _ => by kernel_rfl) ?_
    refine S_val (.int .i64 (((k : Nat) : Int) - 1)) (by kernel_rfl) (fun _ _ => fv (v := .int .i64 (IntKind.i64.wrap ((((k + 1 : Nat) : Int) - 1) - 1))) (vint (w64 (by omega) (by omega) (by omega))) (by kernel_rfl)) ?_
    refine S_val (.int .i64 (((k : Nat) : Int) - 1)) (by kernel_rfl) (fun _ _ => by kernel_rfl) ?_
    refine S_nil ?_
    exact E_norm (fun w hw => ⟨k, by omega, (by kernel_rfl), (by (try dsimp only); omega), Own.eq hw (by (try dsimp only); simp only [ev7_step xs x k (by omega)])⟩)
  · replace hc := of_decide_eq_false hc
    obtain rfl : m = 0 := by omega
    refine C_exit ?_
    refine E_pass_exit ?_
    refine E_pass_exit ?_
    refine E_outblock ?_
    refine E_then ?_
    refine C_seq ?_
    refine C_region ?_
    refine S_val (.agg #[.int .i64 (ev7 (xs.drop 0) x)]) (by kernel_rfl) (ldN [.int .i64 (ev7 (xs.drop 0) x)] 0 b3 0 [.int .i64 (ev7 (xs.drop 0) x)] 68 rfl (by kernel_rfl) Tryd.isAgg68 Tryd.sizeOf68 (by kernel_rfl) (by kernel_rfl)) ?_
    refine S_do (by kernel_rfl) (stN (L' := [⟨b3, [.int .i64 (ev7 (xs.drop 0) x)], 68⟩, ⟨b2, [.int .i64 (ev7 (xs.drop 0) x)], 68⟩, ⟨b1, [.int .i64 x], 68⟩]) [.int .i64 (ev7 (xs.drop 0) x)] 1 b2 0 [.int .i64 0] 68 rfl (by kernel_rfl) (by kernel_rfl) Tryd.sizeOf68 (by simp [Value.oneCell']) (by kernel_rfl) (by simp) (by kernel_rfl)) ?_
    refine S_nil ?_
    refine E_then ?_
    refine C_ret ?_
    exact pure_ret rfl (resC Tryd.results28 [.int .i64 (ev7 (xs.drop 0) x)] 1 b2 68 (by kernel_rfl) Tryd.isAgg68 Tryd.sizeOf68 (by kernel_rfl))
end Go.Vk
