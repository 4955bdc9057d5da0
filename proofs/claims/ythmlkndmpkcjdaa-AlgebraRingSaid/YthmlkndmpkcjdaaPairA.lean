/- What functions of the program do: walks, printed by a program of my own. -/
import Derived.Test.YthmlkndmpkcjdaaPairP
set_option linter.unusedVariables false
set_option linter.unusedSimpArgs false
namespace Go.Vk
open Go Go.RowKit Go.Proofs
theorem c_padd (p q : Int × Int) : Pure Try.prog 56 #[.agg #[.int .i64 p.1, .int .i64 p.2], .agg #[.int .i64 q.1, .int .i64 q.2]] (.agg #[.int .i64 ((pa p q).1), .int .i64 ((pa p q).2)]) := by
  refine pure_of Try.func56 rfl (fun w0 => ?_)
  refine C_seq ?_
  refine C_region ?_
  refine S_newv (fun nb0 => .pointer (some ⟨nb0, 0, none⟩)) [.int .i64 p.1, .int .i64 p.2] 85 (by kernel_rfl) (fun w _ => by kernel_rfl) ?_
  intro b1 hb1 Hb1
  refine S_newv (fun nb0 => .pointer (some ⟨nb0, 0, none⟩)) [.int .i64 q.1, .int .i64 q.2] 85 (by kernel_rfl) (fun w _ => by kernel_rfl) ?_
  intro b2 hb2 Hb2
  refine S_newv (fun nb0 => .pointer (some ⟨nb0, 0, none⟩)) [.int .i64 0, .int .i64 0] 85 (by kernel_rfl) (fun w _ => by kernel_rfl) ?_
  intro b3 hb3 Hb3
  refine S_nil ?_
  refine E_then ?_
  refine C_seq ?_
  refine C_region ?_
  refine S_val (.pointer (some ⟨b1, 0, none⟩)) (by kernel_rfl) (fun _ _ => by kernel_rfl) ?_
  refine S_val (.int .i64 p.1) (by kernel_rfl) (ld1 2 b1 0 [.int .i64 p.1, .int .i64 p.2] 85 rfl (by kernel_rfl) Try.isAgg3 (by kernel_rfl) (by kernel_rfl)) ?_
  refine S_val (.int .i64 (p.1.tmod 5)) (by kernel_rfl) (fun _ _ => by kernel_rfl) ?_
  refine S_val (.pointer (some ⟨b2, 0, none⟩)) (by kernel_rfl) (fun _ _ => by kernel_rfl) ?_
  refine S_val (.int .i64 q.1) (by kernel_rfl) (ld1 1 b2 0 [.int .i64 q.1, .int .i64 q.2] 85 rfl (by kernel_rfl) Try.isAgg3 (by kernel_rfl) (by kernel_rfl)) ?_
  refine S_val (.int .i64 (q.1.tmod 5)) (by kernel_rfl) (fun _ _ => by kernel_rfl) ?_
  refine S_val (.int .i64 (p.1.tmod 5 + q.1.tmod 5)) (by kernel_rfl) (fun _ _ => fv (v := .int .i64 (IntKind.i64.wrap ((p.1.tmod 5) + (q.1.tmod 5)))) (vint (w64 rfl (by have := tb5 p.1; have := tb5 q.1; omega) (by have := tb5 p.1; have := tb5 q.1; omega))) (by kernel_rfl)) ?_
  refine S_val (.int .i64 ((p.1.tmod 5 + q.1.tmod 5).tmod 5)) (by kernel_rfl) (fun _ _ => by kernel_rfl) ?_
  refine S_val (.pointer (some ⟨b1, 1, none⟩)) (by kernel_rfl) (fun _ _ => by kernel_rfl) ?_
  refine S_val (.int .i64 p.2) (by kernel_rfl) (ld1 2 b1 1 [.int .i64 p.1, .int .i64 p.2] 85 rfl (by kernel_rfl) Try.isAgg3 (by kernel_rfl) (by kernel_rfl)) ?_
  refine S_val (.int .i64 (p.2.tmod 7)) (by kernel_rfl) (fun _ _ => by kernel_rfl) ?_
  refine S_val (.pointer (some ⟨b2, 1, none⟩)) (by kernel_rfl) (fun _ _ => by kernel_rfl) ?_
  refine S_val (.int .i64 q.2) (by kernel_rfl) (ld1 1 b2 1 [.int .i64 q.1, .int .i64 q.2] 85 rfl (by kernel_rfl) Try.isAgg3 (by kernel_rfl) (by kernel_rfl)) ?_
  refine S_val (.int .i64 (q.2.tmod 7)) (by kernel_rfl) (fun _ _ => by kernel_rfl) ?_
  refine S_val (.int .i64 (p.2.tmod 7 + q.2.tmod 7)) (by kernel_rfl) (fun _ _ => fv (v := .int .i64 (IntKind.i64.wrap ((p.2.tmod 7) + (q.2.tmod 7)))) (vint (w64 rfl (by have := tb7 p.2; have := tb7 q.2; omega) (by have := tb7 p.2; have := tb7 q.2; omega))) (by kernel_rfl)) ?_
  refine S_val (.int .i64 ((p.2.tmod 7 + q.2.tmod 7).tmod 7)) (by kernel_rfl) (fun _ _ => by kernel_rfl) ?_
  refine S_val (.agg #[.int .i64 ((p.1.tmod 5 + q.1.tmod 5).tmod 5), .int .i64 ((p.2.tmod 7 + q.2.tmod 7).tmod 7)]) (by kernel_rfl) (fun _ _ => by kernel_rfl) ?_
  refine S_do (by kernel_rfl) (stN (L' := [⟨b3, [.int .i64 ((p.1.tmod 5 + q.1.tmod 5).tmod 5), .int .i64 ((p.2.tmod 7 + q.2.tmod 7).tmod 7)], 85⟩, ⟨b2, [.int .i64 q.1, .int .i64 q.2], 85⟩, ⟨b1, [.int .i64 p.1, .int .i64 p.2], 85⟩]) [.int .i64 ((p.1.tmod 5 + q.1.tmod 5).tmod 5), .int .i64 ((p.2.tmod 7 + q.2.tmod 7).tmod 7)] 0 b3 0 [.int .i64 0, .int .i64 0] 85 rfl (by kernel_rfl) (by kernel_rfl) Try.sizeOf85 (by simp [Value.oneCell']) (by kernel_rfl) (by simp) (by kernel_rfl)) ?_
  refine S_nil ?_
  refine E_then ?_
  refine C_ret ?_
  exact pure_ret rfl (resC Try.results56 [.int .i64 ((p.1.tmod 5 + q.1.tmod 5).tmod 5), .int .i64 ((p.2.tmod 7 + q.2.tmod 7).tmod 7)] 0 b3 85 (by kernel_rfl) Try.isAgg85 Try.sizeOf85 (by kernel_rfl))
theorem c_psub (p q : Int × Int) : Pure Try.prog 50 #[.agg #[.int .i64 p.1, .int .i64 p.2], .agg #[.int .i64 q.1, .int .i64 q.2]] (.agg #[.int .i64 ((ps p q).1), .int .i64 ((ps p q).2)]) := by
  refine pure_of Try.func50 rfl (fun w0 => ?_)
  refine C_seq ?_
  refine C_region ?_
  refine S_newv (fun nb0 => .pointer (some ⟨nb0, 0, none⟩)) [.int .i64 p.1, .int .i64 p.2] 85 (by kernel_rfl) (fun w _ => by kernel_rfl) ?_
  intro b1 hb1 Hb1
  refine S_newv (fun nb0 => .pointer (some ⟨nb0, 0, none⟩)) [.int .i64 q.1, .int .i64 q.2] 85 (by kernel_rfl) (fun w _ => by kernel_rfl) ?_
  intro b2 hb2 Hb2
  refine S_newv (fun nb0 => .pointer (some ⟨nb0, 0, none⟩)) [.int .i64 0, .int .i64 0] 85 (by kernel_rfl) (fun w _ => by kernel_rfl) ?_
  intro b3 hb3 Hb3
  refine S_nil ?_
  refine E_then ?_
  refine C_seq ?_
  refine C_region ?_
  refine S_val (.pointer (some ⟨b1, 0, none⟩)) (by kernel_rfl) (fun _ _ => by kernel_rfl) ?_
  refine S_val (.int .i64 p.1) (by kernel_rfl) (ld1 2 b1 0 [.int .i64 p.1, .int .i64 p.2] 85 rfl (by kernel_rfl) Try.isAgg3 (by kernel_rfl) (by kernel_rfl)) ?_
  refine S_val (.int .i64 (p.1.tmod 5)) (by kernel_rfl) (fun _ _ => by kernel_rfl) ?_
  refine S_val (.pointer (some ⟨b2, 0, none⟩)) (by kernel_rfl) (fun _ _ => by kernel_rfl) ?_
  refine S_val (.int .i64 q.1) (by kernel_rfl) (ld1 1 b2 0 [.int .i64 q.1, .int .i64 q.2] 85 rfl (by kernel_rfl) Try.isAgg3 (by kernel_rfl) (by kernel_rfl)) ?_
  refine S_val (.int .i64 (q.1.tmod 5)) (by kernel_rfl) (fun _ _ => by kernel_rfl) ?_
  refine S_val (.int .i64 (p.1.tmod 5 - q.1.tmod 5)) (by kernel_rfl) (fun _ _ => fv (v := .int .i64 (IntKind.i64.wrap ((p.1.tmod 5) - (q.1.tmod 5)))) (vint (w64 rfl (by have := tb5 p.1; have := tb5 q.1; omega) (by have := tb5 p.1; have := tb5 q.1; omega))) (by kernel_rfl)) ?_
  refine S_val (.int .i64 ((p.1.tmod 5 - q.1.tmod 5).tmod 5)) (by kernel_rfl) (fun _ _ => by kernel_rfl) ?_
  refine S_val (.pointer (some ⟨b1, 1, none⟩)) (by kernel_rfl) (fun _ _ => by kernel_rfl) ?_
  refine S_val (.int .i64 p.2) (by kernel_rfl) (ld1 2 b1 1 [.int .i64 p.1, .int .i64 p.2] 85 rfl (by kernel_rfl) Try.isAgg3 (by kernel_rfl) (by kernel_rfl)) ?_
  refine S_val (.int .i64 (p.2.tmod 7)) (by kernel_rfl) (fun _ _ => by kernel_rfl) ?_
  refine S_val (.pointer (some ⟨b2, 1, none⟩)) (by kernel_rfl) (fun _ _ => by kernel_rfl) ?_
  refine S_val (.int .i64 q.2) (by kernel_rfl) (ld1 1 b2 1 [.int .i64 q.1, .int .i64 q.2] 85 rfl (by kernel_rfl) Try.isAgg3 (by kernel_rfl) (by kernel_rfl)) ?_
  refine S_val (.int .i64 (q.2.tmod 7)) (by kernel_rfl) (fun _ _ => by kernel_rfl) ?_
  refine S_val (.int .i64 (p.2.tmod 7 - q.2.tmod 7)) (by kernel_rfl) (fun _ _ => fv (v := .int .i64 (IntKind.i64.wrap ((p.2.tmod 7) - (q.2.tmod 7)))) (vint (w64 rfl (by have := tb7 p.2; have := tb7 q.2; omega) (by have := tb7 p.2; have := tb7 q.2; omega))) (by kernel_rfl)) ?_
  refine S_val (.int .i64 ((p.2.tmod 7 - q.2.tmod 7).tmod 7)) (by kernel_rfl) (fun _ _ => by kernel_rfl) ?_
  refine S_val (.agg #[.int .i64 ((p.1.tmod 5 - q.1.tmod 5).tmod 5), .int .i64 ((p.2.tmod 7 - q.2.tmod 7).tmod 7)]) (by kernel_rfl) (fun _ _ => by kernel_rfl) ?_
  refine S_do (by kernel_rfl) (stN (L' := [⟨b3, [.int .i64 ((p.1.tmod 5 - q.1.tmod 5).tmod 5), .int .i64 ((p.2.tmod 7 - q.2.tmod 7).tmod 7)], 85⟩, ⟨b2, [.int .i64 q.1, .int .i64 q.2], 85⟩, ⟨b1, [.int .i64 p.1, .int .i64 p.2], 85⟩]) [.int .i64 ((p.1.tmod 5 - q.1.tmod 5).tmod 5), .int .i64 ((p.2.tmod 7 - q.2.tmod 7).tmod 7)] 0 b3 0 [.int .i64 0, .int .i64 0] 85 rfl (by kernel_rfl) (by kernel_rfl) Try.sizeOf85 (by simp [Value.oneCell']) (by kernel_rfl) (by simp) (by kernel_rfl)) ?_
  refine S_nil ?_
  refine E_then ?_
  refine C_ret ?_
  exact pure_ret rfl (resC Try.results50 [.int .i64 ((p.1.tmod 5 - q.1.tmod 5).tmod 5), .int .i64 ((p.2.tmod 7 - q.2.tmod 7).tmod 7)] 0 b3 85 (by kernel_rfl) Try.isAgg85 Try.sizeOf85 (by kernel_rfl))
theorem c_pmul (p q : Int × Int) : Pure Try.prog 51 #[.agg #[.int .i64 p.1, .int .i64 p.2], .agg #[.int .i64 q.1, .int .i64 q.2]] (.agg #[.int .i64 ((pm p q).1), .int .i64 ((pm p q).2)]) := by
  refine pure_of Try.func51 rfl (fun w0 => ?_)
  refine C_seq ?_
  refine C_region ?_
  refine S_newv (fun nb0 => .pointer (some ⟨nb0, 0, none⟩)) [.int .i64 p.1, .int .i64 p.2] 85 (by kernel_rfl) (fun w _ => by kernel_rfl) ?_
  intro b1 hb1 Hb1
  refine S_newv (fun nb0 => .pointer (some ⟨nb0, 0, none⟩)) [.int .i64 q.1, .int .i64 q.2] 85 (by kernel_rfl) (fun w _ => by kernel_rfl) ?_
  intro b2 hb2 Hb2
  refine S_newv (fun nb0 => .pointer (some ⟨nb0, 0, none⟩)) [.int .i64 0, .int .i64 0] 85 (by kernel_rfl) (fun w _ => by kernel_rfl) ?_
  intro b3 hb3 Hb3
  refine S_nil ?_
  refine E_then ?_
  refine C_seq ?_
  refine C_region ?_
  refine S_val (.pointer (some ⟨b1, 0, none⟩)) (by kernel_rfl) (fun _ _ => by kernel_rfl) ?_
  refine S_val (.int .i64 p.1) (by kernel_rfl) (ld1 2 b1 0 [.int .i64 p.1, .int .i64 p.2] 85 rfl (by kernel_rfl) Try.isAgg3 (by kernel_rfl) (by kernel_rfl)) ?_
  refine S_val (.int .i64 (p.1.tmod 5)) (by kernel_rfl) (fun _ _ => by kernel_rfl) ?_
  refine S_val (.pointer (some ⟨b2, 0, none⟩)) (by kernel_rfl) (fun _ _ => by kernel_rfl) ?_
  refine S_val (.int .i64 q.1) (by kernel_rfl) (ld1 1 b2 0 [.int .i64 q.1, .int .i64 q.2] 85 rfl (by kernel_rfl) Try.isAgg3 (by kernel_rfl) (by kernel_rfl)) ?_
  refine S_val (.int .i64 (q.1.tmod 5)) (by kernel_rfl) (fun _ _ => by kernel_rfl) ?_
  refine S_val (.int .i64 (p.1.tmod 5 * q.1.tmod 5)) (by kernel_rfl) (fun _ _ => fv (v := .int .i64 (IntKind.i64.wrap ((p.1.tmod 5) * (q.1.tmod 5)))) (vint (w64 rfl (by have := tm5 p.1 q.1; omega) (by have := tm5 p.1 q.1; omega))) (by kernel_rfl)) ?_
  refine S_val (.int .i64 ((p.1.tmod 5 * q.1.tmod 5).tmod 5)) (by kernel_rfl) (fun _ _ => by kernel_rfl) ?_
  refine S_val (.pointer (some ⟨b1, 1, none⟩)) (by kernel_rfl) (fun _ _ => by kernel_rfl) ?_
  refine S_val (.int .i64 p.2) (by kernel_rfl) (ld1 2 b1 1 [.int .i64 p.1, .int .i64 p.2] 85 rfl (by kernel_rfl) Try.isAgg3 (by kernel_rfl) (by kernel_rfl)) ?_
  refine S_val (.int .i64 (p.2.tmod 7)) (by kernel_rfl) (fun _ _ => by kernel_rfl) ?_
  refine S_val (.pointer (some ⟨b2, 1, none⟩)) (by kernel_rfl) (fun _ _ => by kernel_rfl) ?_
  refine S_val (.int .i64 q.2) (by kernel_rfl) (ld1 1 b2 1 [.int .i64 q.1, .int .i64 q.2] 85 rfl (by kernel_rfl) Try.isAgg3 (by kernel_rfl) (by kernel_rfl)) ?_
  refine S_val (.int .i64 (q.2.tmod 7)) (by kernel_rfl) (fun _ _ => by kernel_rfl) ?_
  refine S_val (.int .i64 (p.2.tmod 7 * q.2.tmod 7)) (by kernel_rfl) (fun _ _ => fv (v := .int .i64 (IntKind.i64.wrap ((p.2.tmod 7) * (q.2.tmod 7)))) (vint (w64 rfl (by have := tm7 p.2 q.2; omega) (by have := tm7 p.2 q.2; omega))) (by kernel_rfl)) ?_
  refine S_val (.int .i64 ((p.2.tmod 7 * q.2.tmod 7).tmod 7)) (by kernel_rfl) (fun _ _ => by kernel_rfl) ?_
  refine S_val (.agg #[.int .i64 ((p.1.tmod 5 * q.1.tmod 5).tmod 5), .int .i64 ((p.2.tmod 7 * q.2.tmod 7).tmod 7)]) (by kernel_rfl) (fun _ _ => by kernel_rfl) ?_
  refine S_do (by kernel_rfl) (stN (L' := [⟨b3, [.int .i64 ((p.1.tmod 5 * q.1.tmod 5).tmod 5), .int .i64 ((p.2.tmod 7 * q.2.tmod 7).tmod 7)], 85⟩, ⟨b2, [.int .i64 q.1, .int .i64 q.2], 85⟩, ⟨b1, [.int .i64 p.1, .int .i64 p.2], 85⟩]) [.int .i64 ((p.1.tmod 5 * q.1.tmod 5).tmod 5), .int .i64 ((p.2.tmod 7 * q.2.tmod 7).tmod 7)] 0 b3 0 [.int .i64 0, .int .i64 0] 85 rfl (by kernel_rfl) (by kernel_rfl) Try.sizeOf85 (by simp [Value.oneCell']) (by kernel_rfl) (by simp) (by kernel_rfl)) ?_
  refine S_nil ?_
  refine E_then ?_
  refine C_ret ?_
  exact pure_ret rfl (resC Try.results51 [.int .i64 ((p.1.tmod 5 * q.1.tmod 5).tmod 5), .int .i64 ((p.2.tmod 7 * q.2.tmod 7).tmod 7)] 0 b3 85 (by kernel_rfl) Try.isAgg85 Try.sizeOf85 (by kernel_rfl))
theorem c_pone (p : Int × Int) : Pure Try.prog 139 #[.agg #[.int .i64 p.1, .int .i64 p.2]] (.agg #[.int .i64 1, .int .i64 1]) := by
  refine pure_of Try.func139 rfl (fun w0 => ?_)
  refine C_seq ?_
  refine C_region ?_
  refine S_newv (fun nb0 => .pointer (some ⟨nb0, 0, none⟩)) [.int .i64 p.1, .int .i64 p.2] 85 (by kernel_rfl) (fun w _ => by kernel_rfl) ?_
  intro b1 hb1 Hb1
  refine S_newv (fun nb0 => .pointer (some ⟨nb0, 0, none⟩)) [.int .i64 0, .int .i64 0] 85 (by kernel_rfl) (fun w _ => by kernel_rfl) ?_
  intro b2 hb2 Hb2
  refine S_nil ?_
  refine E_then ?_
  refine C_seq ?_
  refine C_region ?_
  refine S_val (.agg #[.int .i64 1, .int .i64 1]) (by kernel_rfl) (fun _ _ => by kernel_rfl) ?_
  refine S_do (by kernel_rfl) (stN (L' := [⟨b2, [.int .i64 1, .int .i64 1], 85⟩, ⟨b1, [.int .i64 p.1, .int .i64 p.2], 85⟩]) [.int .i64 1, .int .i64 1] 0 b2 0 [.int .i64 0, .int .i64 0] 85 rfl (by kernel_rfl) (by kernel_rfl) Try.sizeOf85 (by simp [Value.oneCell']) (by kernel_rfl) (by simp) (by kernel_rfl)) ?_
  refine S_nil ?_
  refine E_then ?_
  refine C_ret ?_
  exact pure_ret rfl (resC Try.results139 [.int .i64 1, .int .i64 1] 0 b2 85 (by kernel_rfl) Try.isAgg85 Try.sizeOf85 (by kernel_rfl))
theorem c_pzT (p : Int × Int) (h : p.1.tmod 5 = 0) : Pure Try.prog 52 #[.agg #[.int .i64 p.1, .int .i64 p.2]] (.bool (p.2.tmod 7 == 0)) := by
  refine pure_of Try.func52 rfl (fun w0 => ?_)
  refine C_seq ?_
  refine C_region ?_
  refine S_newv (fun nb0 => .pointer (some ⟨nb0, 0, none⟩)) [.int .i64 p.1, .int .i64 p.2] 85 (by kernel_rfl) (fun w _ => by kernel_rfl) ?_
  intro b1 hb1 Hb1
  refine S_val (.bool false) (by kernel_rfl) (fun _ _ => by kernel_rfl) ?_
  refine S_nil ?_
  refine E_then ?_
  refine C_seq ?_
  refine C_region ?_
  refine S_val (.pointer (some ⟨b1, 0, none⟩)) (by kernel_rfl) (fun _ _ => by kernel_rfl) ?_
  refine S_val (.int .i64 p.1) (by kernel_rfl) (ld1 0 b1 0 [.int .i64 p.1, .int .i64 p.2] 85 rfl (by kernel_rfl) Try.isAgg3 (by kernel_rfl) (by kernel_rfl)) ?_
  refine S_val (.int .i64 (p.1.tmod 5)) (by kernel_rfl) (fun _ _ => by kernel_rfl) ?_
  refine S_val (.bool true) (by kernel_rfl) (fun _ _ => fv (v := .bool ((p.1.tmod 5) == 0)) (vbool (beq_iff_eq.2 (by omega))) (by kernel_rfl)) ?_
  refine S_val (.bool true) (by kernel_rfl) (fun _ _ => by kernel_rfl) ?_
  refine S_val (.pointer (some ⟨b1, 1, none⟩)) (by kernel_rfl) (fun _ _ => by kernel_rfl) ?_
  refine S_val (.int .i64 p.2) (by kernel_rfl) (ld1 0 b1 1 [.int .i64 p.1, .int .i64 p.2] 85 rfl (by kernel_rfl) Try.isAgg3 (by kernel_rfl) (by kernel_rfl)) ?_
  refine S_val (.int .i64 (p.2.tmod 7)) (by kernel_rfl) (fun _ _ => by kernel_rfl) ?_
  refine S_val (.bool ((p.2.tmod 7) == 0)) (by kernel_rfl) (fun _ _ => by kernel_rfl) ?_
  refine S_val (.bool ((p.2.tmod 7) == 0)) (by kernel_rfl) (fun _ _ => by kernel_rfl) ?_
  refine S_val (.bool ((p.2.tmod 7) == 0)) (by kernel_rfl) (fun _ _ => by kernel_rfl) ?_
  refine S_nil ?_
  refine E_then ?_
  refine C_ret ?_
  exact pure_ret rfl (res1 Try.results52 (by kernel_rfl))
theorem c_pzF (p : Int × Int) (h : ¬ p.1.tmod 5 = 0) : Pure Try.prog 52 #[.agg #[.int .i64 p.1, .int .i64 p.2]] (.bool false) := by
  refine pure_of Try.func52 rfl (fun w0 => ?_)
  refine C_seq ?_
  refine C_region ?_
  refine S_newv (fun nb0 => .pointer (some ⟨nb0, 0, none⟩)) [.int .i64 p.1, .int .i64 p.2] 85 (by kernel_rfl) (fun w _ => by kernel_rfl) ?_
  intro b1 hb1 Hb1
  refine S_val (.bool false) (by kernel_rfl) (fun _ _ => by kernel_rfl) ?_
  refine S_nil ?_
  refine E_then ?_
  refine C_seq ?_
  refine C_region ?_
  refine S_val (.pointer (some ⟨b1, 0, none⟩)) (by kernel_rfl) (fun _ _ => by kernel_rfl) ?_
  refine S_val (.int .i64 p.1) (by kernel_rfl) (ld1 0 b1 0 [.int .i64 p.1, .int .i64 p.2] 85 rfl (by kernel_rfl) Try.isAgg3 (by kernel_rfl) (by kernel_rfl)) ?_
  refine S_val (.int .i64 (p.1.tmod 5)) (by kernel_rfl) (fun _ _ => by kernel_rfl) ?_
  refine S_val (.bool false) (by kernel_rfl) (fun _ _ => fv (v := .bool ((p.1.tmod 5) == 0)) (vbool (beq_eq_false_iff_ne.2 (by omega))) (by kernel_rfl)) ?_
  refine S_val (.bool false) (by kernel_rfl) (fun _ _ => by kernel_rfl) ?_
  refine S_not (by kernel_rfl) ?_
  refine S_not (by kernel_rfl) ?_
  refine S_not (by kernel_rfl) ?_
  refine S_not (by kernel_rfl) ?_
  refine S_val (.bool false) (by kernel_rfl) (fun _ _ => by kernel_rfl) ?_
  refine S_val (.bool false) (by kernel_rfl) (fun _ _ => by kernel_rfl) ?_
  refine S_nil ?_
  refine E_then ?_
  refine C_ret ?_
  exact pure_ret rfl (res1 Try.results52 (by kernel_rfl))
theorem c_pzero (p : Int × Int) : Pure Try.prog 52 #[.agg #[.int .i64 p.1, .int .i64 p.2]] (.bool (pzero p)) := by
  unfold pzero
  split
  · rename_i h; exact c_pzT p h
  · rename_i h; exact c_pzF p h
theorem c_evalp (w0 : World) (v : Value) (xs : List (Int × Int)) (x : Int × Int) (hv : Rd w0 v 2 fp xs) (hl : xs.length ≤ 1152921504606846976) : Calls Try.prog 48 #[v, .agg #[.int .i64 x.1, .int .i64 x.2]] w0 fun e w' => e = .returned (.agg #[.int .i64 ((evp xs x).1), .int .i64 ((evp xs x).2)]) ∧ Below w0.heap.size w0 w' := by
  obtain ⟨ao, cap, rfl, hx⟩ := hv.o
  refine calls_start Try.func48 rfl ?_
  refine C_seq ?_
  refine C_region ?_
  refine S_newv (fun nb0 => .pointer (some ⟨nb0, 0, none⟩)) [.int .i64 x.1, .int .i64 x.2] 85 (by kernel_rfl) (fun w _ => by kernel_rfl) ?_
  intro b1 hb1 Hb1
  refine S_newv (fun nb0 => .pointer (some ⟨nb0, 0, none⟩)) [.int .i64 0, .int .i64 0] 85 (by kernel_rfl) (fun w _ => by kernel_rfl) ?_
  intro b2 hb2 Hb2
  refine S_nil ?_
  refine E_then ?_
  refine C_seq ?_
  refine C_region ?_
  refine S_newv (fun nb0 => .pointer (some ⟨nb0, 0, none⟩)) [.int .i64 0, .int .i64 0] 85 (by kernel_rfl) (fun w _ => by kernel_rfl) ?_
  intro b3 hb3 Hb3
  refine S_nil ?_
  refine E_then ?_
  refine C_seq ?_
  refine C_seq ?_
  refine C_region ?_
  refine S_val (.slice ao xs.length cap) (by kernel_rfl) (fun _ _ => by kernel_rfl) ?_
  refine S_val (.int .i64 ((xs.length : Nat) : Int)) (by kernel_rfl) (fun _ _ => by kernel_rfl) ?_
  refine S_val (.int .i64 (((xs.length : Nat) : Int) - 1)) (by kernel_rfl) (fun _ _ => fv (v := .int .i64 (IntKind.i64.wrap (((xs.length : Nat) : Int) - 1))) (vint (w64 rfl (by omega) (by omega))) (by kernel_rfl)) ?_
  refine S_val (.int .i64 (((xs.length : Nat) : Int) - 1)) (by kernel_rfl) (fun _ _ => by kernel_rfl) ?_
  refine S_nil ?_
  refine E_then ?_
  refine C_block ?_
  refine C_loop1 (fun (m : Nat) => (m ≤ xs.length)) (fun (m : Nat) => fun g => ⟨#[.slice ao xs.length cap, g 1, g 2, .pointer (some ⟨b1, 0, none⟩), .pointer (some ⟨b2, 0, none⟩), .pointer (some ⟨b3, 0, none⟩), .int .i64 (((m : Nat) : Int) - 1), g 7, g 8, g 9, g 10, g 11, g 12, g 13, g 14, g 15, g 16, g 17, g 18, g 19, g 20, g 21, g 22, g 23, g 24], []⟩) (fun (m : Nat) => [⟨b3, [.int .i64 ((evp (xs.drop m) x).1), .int .i64 ((evp (xs.drop m) x).2)], 85⟩, ⟨b2, [.int .i64 0, .int .i64 0], 85⟩, ⟨b1, [.int .i64 x.1, .int .i64 x.2], 85⟩]) (fun (m : Nat) => m) xs.length (by (try dsimp only); exact Nat.le_refl _) (by kernel_rfl) (by first | (dsimp only; done) | ((try dsimp only); simp [evp, pz])) ?_
  rintro m g4 hm
  refine C_seq ?_
  refine C_seq ?_
  refine C_region ?_
  refine S_val (.int .i64 (((m : Nat) : Int) - 1)) (by kernel_rfl) (fun _ _ => by kernel_rfl) ?_
  refine S_val (.bool (decide (((m : Nat) : Int) - 1 ≥ 0))) (by kernel_rfl) (fun _ _ => by kernel_rfl) ?_
  refine S_nil ?_
  refine E_then ?_
  refine C_if (decide (((m : Nat) : Int) - 1 ≥ 0)) (by kernel_rfl) (fun hc => ?_) (fun hc => ?_)
  · replace hc := of_decide_eq_true hc
    obtain ⟨k, rfl⟩ : ∃ k, m = k + 1 := ⟨m - 1, by omega⟩
    obtain ⟨bi5, oi6, rfl, hi7⟩ := hx.op (by omega)
    refine C_skip ?_
    refine E_then ?_
    refine C_seq ?_
    refine C_block ?_
    refine C_drawn [.held, .pure, .held, .held, .pure, .pure, .pure, .pure, .held, .held, .eff] (by kernel_rfl) (by kernel_rfl) ?_
    refine D_held (.agg #[.int .i64 ((evp (xs.drop (k + 1)) x).1), .int .i64 ((evp (xs.drop (k + 1)) x).2)]) (by kernel_rfl) (ldN [.int .i64 ((evp (xs.drop (k + 1)) x).1), .int .i64 ((evp (xs.drop (k + 1)) x).2)] 0 b3 0 [.int .i64 ((evp (xs.drop (k + 1)) x).1), .int .i64 ((evp (xs.drop (k + 1)) x).2)] 85 rfl (by kernel_rfl) Try.isAgg85 Try.sizeOf85 (by kernel_rfl) (by kernel_rfl)) ?_
    refine D_val (.iface 85 (.agg #[.int .i64 ((evp (xs.drop (k + 1)) x).1), .int .i64 ((evp (xs.drop (k + 1)) x).2)])) (by kernel_rfl) (fun _ => by kernel_rfl) ?_
    refine D_held (.agg #[.int .i64 x.1, .int .i64 x.2]) (by kernel_rfl) (ldN [.int .i64 x.1, .int .i64 x.2] 2 b1 0 [.int .i64 x.1, .int .i64 x.2] 85 rfl (by kernel_rfl) Try.isAgg85 Try.sizeOf85 (by kernel_rfl) (by kernel_rfl)) ?_
    refine D_pure (v := .agg #[.int .i64 ((pm (evp (xs.drop (k + 1)) x) x).1), .int .i64 ((pm (evp (xs.drop (k + 1)) x) x).2)]) (by kernel_rfl) (c_pmul (evp (xs.drop (k + 1)) x) x) (fun _ => by kernel_rfl) ?_
    refine D_val (.iface 85 (.agg #[.int .i64 ((pm (evp (xs.drop (k + 1)) x) x).1), .int .i64 ((pm (evp (xs.drop (k + 1)) x) x).2)])) (by kernel_rfl) (fun _ => by kernel_rfl) ?_
    refine D_val (.slice (some ⟨bi5, oi6, none⟩) xs.length cap) (by kernel_rfl) (fun _ => by kernel_rfl) ?_
    refine D_val (.int .i64 ((k : Nat) : Int)) (by kernel_rfl) (fun _ => fv (v := .int .i64 (((k + 1 : Nat) : Int) - 1)) (vint (by omega)) (by kernel_rfl)) ?_
    refine D_val (.pointer (some ⟨bi5, oi6 + k * 2, none⟩)) (by kernel_rfl) (ixS (k := .i64) bi5 oi6 xs.length cap 2 k rfl (by kernel_rfl) (by kernel_rfl) Try.underlying82 Try.sizeOf85 (by omega)) ?_
    refine D_held (.agg #[.int .i64 ((xs.getD k pz).1), .int .i64 ((xs.getD k pz).2)]) (by kernel_rfl) (ldR fp_len pz k bi5 oi6 (oi6 + k * 2) hi7 rfl (by kernel_rfl) rfl (by omega) Try.isAgg85 Try.sizeOf85) ?_
    refine D_pure (v := .agg #[.int .i64 ((pa (pm (evp (xs.drop (k + 1)) x) x) (xs.getD k pz)).1), .int .i64 ((pa (pm (evp (xs.drop (k + 1)) x) x) (xs.getD k pz)).2)]) (by kernel_rfl) (c_padd (pm (evp (xs.drop (k + 1)) x) x) (xs.getD k pz)) (fun _ => by kernel_rfl) ?_
    refine D_do (by kernel_rfl) (stN (L' := [⟨b3, [.int .i64 ((pa (pm (evp (xs.drop (k + 1)) x) x) (xs.getD k pz)).1), .int .i64 ((pa (pm (evp (xs.drop (k + 1)) x) x) (xs.getD k pz)).2)], 85⟩, ⟨b2, [.int .i64 0, .int .i64 0], 85⟩, ⟨b1, [.int .i64 x.1, .int .i64 x.2], 85⟩]) [.int .i64 ((pa (pm (evp (xs.drop (k + 1)) x) x) (xs.getD k pz)).1), .int .i64 ((pa (pm (evp (xs.drop (k + 1)) x) x) (xs.getD k pz)).2)] 0 b3 0 [.int .i64 ((evp (xs.drop (k + 1)) x).1), .int .i64 ((evp (xs.drop (k + 1)) x).2)] 85 rfl (by kernel_rfl) (by kernel_rfl) Try.sizeOf85 (by simp [Value.oneCell']) (by kernel_rfl) (by simp) (by kernel_rfl)) ?_
    refine D_nil ?_
    refine E_inblock ?_
    refine E_then ?_
    refine C_region ?_
    refine S_val (.int .i64 (((k + 1 : Nat) : Int) - 1)) (by kernel_rfl) (fun _ _ => by kernel_rfl) ?_
    refine S_val (.int .i64 (((k : Nat) : Int) - 1)) (by kernel_rfl) (fun _ _ => fv (v := .int .i64 (IntKind.i64.wrap ((((k + 1 : Nat) : Int) - 1) - 1))) (vint (w64 (by omega) (by omega) (by omega))) (by kernel_rfl)) ?_
    refine S_val (.int .i64 (((k : Nat) : Int) - 1)) (by kernel_rfl) (fun _ _ => by kernel_rfl) ?_
    refine S_nil ?_
    exact E_norm (fun w hw => ⟨k, by omega, (by kernel_rfl), (by (try dsimp only); omega), Own.eq hw (by (try dsimp only); simp only [evp_step xs x k (by omega)])⟩)
  · replace hc := of_decide_eq_false hc
    obtain rfl : m = 0 := by omega
    refine C_exit ?_
    refine E_pass_exit ?_
    refine E_pass_exit ?_
    refine E_outblock ?_
    refine E_then ?_
    refine C_seq ?_
    refine C_region ?_
    refine S_val (.agg #[.int .i64 ((evp (xs.drop 0) x).1), .int .i64 ((evp (xs.drop 0) x).2)]) (by kernel_rfl) (ldN [.int .i64 ((evp (xs.drop 0) x).1), .int .i64 ((evp (xs.drop 0) x).2)] 0 b3 0 [.int .i64 ((evp (xs.drop 0) x).1), .int .i64 ((evp (xs.drop 0) x).2)] 85 rfl (by kernel_rfl) Try.isAgg85 Try.sizeOf85 (by kernel_rfl) (by kernel_rfl)) ?_
    refine S_do (by kernel_rfl) (stN (L' := [⟨b3, [.int .i64 ((evp (xs.drop 0) x).1), .int .i64 ((evp (xs.drop 0) x).2)], 85⟩, ⟨b2, [.int .i64 ((evp (xs.drop 0) x).1), .int .i64 ((evp (xs.drop 0) x).2)], 85⟩, ⟨b1, [.int .i64 x.1, .int .i64 x.2], 85⟩]) [.int .i64 ((evp (xs.drop 0) x).1), .int .i64 ((evp (xs.drop 0) x).2)] 1 b2 0 [.int .i64 0, .int .i64 0] 85 rfl (by kernel_rfl) (by kernel_rfl) Try.sizeOf85 (by simp [Value.oneCell']) (by kernel_rfl) (by simp) (by kernel_rfl)) ?_
    refine S_nil ?_
    refine E_then ?_
    refine C_ret ?_
    exact pure_ret rfl (resC Try.results48 [.int .i64 ((evp (xs.drop 0) x).1), .int .i64 ((evp (xs.drop 0) x).2)] 1 b2 85 (by kernel_rfl) Try.isAgg85 Try.sizeOf85 (by kernel_rfl))
theorem c_productp_nil1 (w0 : World) (v u : Value) (c d : List (Int × Int)) (hv : Rd w0 v 2 fp c) (hu : Rd w0 u 2 fp d) (h : c.length = 0) (hl : c.length ≤ 17592186044416) : Gives Try.prog 49 #[v, u] w0 85 2 0 ([] : List Value) (fun v => v) := by
  obtain ⟨ao, cap, rfl, hx⟩ := hv.o
  obtain ⟨ao2, cap2, rfl, hy⟩ := hu.o
  unfold Gives
  refine calls_start Try.func49 rfl ?_
  refine C_seq ?_
  refine C_region ?_
  refine S_val (.slice none 0 0) (by kernel_rfl) (fun _ _ => by kernel_rfl) ?_
  refine S_nil ?_
  refine E_then ?_
  refine C_seq ?_
  refine C_seq ?_
  refine C_region ?_
  refine S_val (.slice ao c.length cap) (by kernel_rfl) (fun _ _ => by kernel_rfl) ?_
  refine S_val (.int .i64 ((c.length : Nat) : Int)) (by kernel_rfl) (fun _ _ => by kernel_rfl) ?_
  refine S_val (.bool true) (by kernel_rfl) (fun _ _ => fv (v := .bool (((c.length : Nat) : Int) == 0)) (vbool (beq_iff_eq.2 (by omega))) (by kernel_rfl)) ?_
  refine S_val (.bool true) (by kernel_rfl) (fun _ _ => by kernel_rfl) ?_
  refine S_not (by kernel_rfl) ?_
  refine S_not (by kernel_rfl) ?_
  refine S_not (by kernel_rfl) ?_
  refine S_val (.bool true) (by kernel_rfl) (fun _ _ => by kernel_rfl) ?_
  refine S_nil ?_
  refine E_then ?_
  refine C_true (by kernel_rfl) ?_
  refine C_seq ?_
  refine C_region ?_
  refine S_val (.slice none 0 0) (by kernel_rfl) (fun _ _ => by kernel_rfl) ?_
  refine S_nil ?_
  refine E_then ?_
  refine C_ret ?_
  refine E_pass_ret ?_
  exact gives_row (mk := (fun v => v)) (Rw.nil 85 2) (List.nil_sublist _) rfl (res1 Try.results49 (by kernel_rfl))
theorem c_productp_nil2 (w0 : World) (v u : Value) (c d : List (Int × Int)) (hv : Rd w0 v 2 fp c) (hu : Rd w0 u 2 fp d) (h0 : 0 < c.length) (h : d.length = 0) (hl : c.length ≤ 17592186044416) : Gives Try.prog 49 #[v, u] w0 85 2 0 ([] : List Value) (fun v => v) := by
  obtain ⟨ao, cap, rfl, hx⟩ := hv.o
  obtain ⟨ao2, cap2, rfl, hy⟩ := hu.o
  unfold Gives
  refine calls_start Try.func49 rfl ?_
  refine C_seq ?_
  refine C_region ?_
  refine S_val (.slice none 0 0) (by kernel_rfl) (fun _ _ => by kernel_rfl) ?_
  refine S_nil ?_
  refine E_then ?_
  refine C_seq ?_
  refine C_seq ?_
  refine C_region ?_
  refine S_val (.slice ao c.length cap) (by kernel_rfl) (fun _ _ => by kernel_rfl) ?_
  refine S_val (.int .i64 ((c.length : Nat) : Int)) (by kernel_rfl) (fun _ _ => by kernel_rfl) ?_
  refine S_val (.bool false) (by kernel_rfl) (fun _ _ => fv (v := .bool (((c.length : Nat) : Int) == 0)) (vbool (beq_eq_false_iff_ne.2 (by omega))) (by kernel_rfl)) ?_
  refine S_val (.bool false) (by kernel_rfl) (fun _ _ => by kernel_rfl) ?_
  refine S_val (.slice ao2 d.length cap2) (by kernel_rfl) (fun _ _ => by kernel_rfl) ?_
  refine S_val (.int .i64 ((d.length : Nat) : Int)) (by kernel_rfl) (fun _ _ => by kernel_rfl) ?_
  refine S_val (.bool true) (by kernel_rfl) (fun _ _ => fv (v := .bool (((d.length : Nat) : Int) == 0)) (vbool (beq_iff_eq.2 (by omega))) (by kernel_rfl)) ?_
  refine S_val (.bool true) (by kernel_rfl) (fun _ _ => by kernel_rfl) ?_
  refine S_nil ?_
  refine E_then ?_
  refine C_true (by kernel_rfl) ?_
  refine C_seq ?_
  refine C_region ?_
  refine S_val (.slice none 0 0) (by kernel_rfl) (fun _ _ => by kernel_rfl) ?_
  refine S_nil ?_
  refine E_then ?_
  refine C_ret ?_
  refine E_pass_ret ?_
  exact gives_row (mk := (fun v => v)) (Rw.nil 85 2) (List.nil_sublist _) rfl (res1 Try.results49 (by kernel_rfl))
theorem c_productp_on (w0 : World) (v u : Value) (c d : List (Int × Int)) (hv : Rd w0 v 2 fp c) (hu : Rd w0 u 2 fp d) (hc0 : 0 < c.length) (hd0 : 0 < d.length) (hl1 : c.length ≤ 1099511627776) (hl2 : d.length ≤ 1099511627776) : Gives Try.prog 49 #[v, u] w0 85 2 (c.length + d.length - 1) ((poutp c d c.length).flatMap fp) (fun v => v) := by
  obtain ⟨ao, cap, rfl, hx⟩ := hv.o
  obtain ⟨ao2, cap2, rfl, hy⟩ := hu.o
  unfold Gives
  refine calls_start Try.func49 rfl ?_
  refine C_seq ?_
  refine C_region ?_
  refine S_val (.slice none 0 0) (by kernel_rfl) (fun _ _ => by kernel_rfl) ?_
  refine S_nil ?_
  refine E_then ?_
  refine C_seq ?_
  refine C_seq ?_
  refine C_region ?_
  refine S_val (.slice ao c.length cap) (by kernel_rfl) (fun _ _ => by kernel_rfl) ?_
  refine S_val (.int .i64 ((c.length : Nat) : Int)) (by kernel_rfl) (fun _ _ => by kernel_rfl) ?_
  refine S_val (.bool false) (by kernel_rfl) (fun _ _ => fv (v := .bool (((c.length : Nat) : Int) == 0)) (vbool (beq_eq_false_iff_ne.2 (by omega))) (by kernel_rfl)) ?_
  refine S_val (.bool false) (by kernel_rfl) (fun _ _ => by kernel_rfl) ?_
  refine S_val (.slice ao2 d.length cap2) (by kernel_rfl) (fun _ _ => by kernel_rfl) ?_
  refine S_val (.int .i64 ((d.length : Nat) : Int)) (by kernel_rfl) (fun _ _ => by kernel_rfl) ?_
  refine S_val (.bool false) (by kernel_rfl) (fun _ _ => fv (v := .bool (((d.length : Nat) : Int) == 0)) (vbool (beq_eq_false_iff_ne.2 (by omega))) (by kernel_rfl)) ?_
  refine S_val (.bool false) (by kernel_rfl) (fun _ _ => by kernel_rfl) ?_
  refine S_nil ?_
  refine E_then ?_
  refine C_false (by kernel_rfl) ?_
  refine C_skip ?_
  refine E_then ?_
  refine C_seq ?_
  refine C_region ?_
  refine S_val (.slice ao c.length cap) (by kernel_rfl) (fun _ _ => by kernel_rfl) ?_
  refine S_val (.int .i64 ((c.length : Nat) : Int)) (by kernel_rfl) (fun _ _ => by kernel_rfl) ?_
  refine S_val (.slice ao2 d.length cap2) (by kernel_rfl) (fun _ _ => by kernel_rfl) ?_
  refine S_val (.int .i64 ((d.length : Nat) : Int)) (by kernel_rfl) (fun _ _ => by kernel_rfl) ?_
  refine S_val (.int .i64 ((c.length + d.length : Nat) : Int)) (by kernel_rfl) (fun _ _ => fv (v := .int .i64 (IntKind.i64.wrap (((c.length : Nat) : Int) + ((d.length : Nat) : Int)))) (vint (w64 (by omega) (by omega) (by omega))) (by kernel_rfl)) ?_
  refine S_val (.int .i64 ((c.length + d.length - 1 : Nat) : Int)) (by kernel_rfl) (fun _ _ => fv (v := .int .i64 (IntKind.i64.wrap (((c.length + d.length : Nat) : Int) - 1))) (vint (w64 (by omega) (by omega) (by omega))) (by kernel_rfl)) ?_
  refine S_newv (fun nb0 => .slice (some ⟨nb0, 0, none⟩) (c.length + d.length - 1) (c.length + d.length - 1)) ((List.replicate (c.length + d.length - 1) pz).flatMap fp) 85 (by kernel_rfl) (mk (kl := .i64) (kc := .i64) (z := .agg #[.int .i64 0, .int .i64 0]) (i := Try.t85) (c.length + d.length - 1) (c.length + d.length - 1) Try.underlying82 (by kernel_rfl) (by kernel_rfl) rfl (by kernel_rfl) (by kernel_rfl) (by omega) (by simp only [Try.t85]; omega) (by omega) ((List.replicate (c.length + d.length - 1) pz).flatMap fp) (madeF (f := fp) (d := pz) (c.length + d.length - 1) rfl)) ?_
  intro b1 hb1 Hb1
  refine S_val (.slice (some ⟨b1, 0, none⟩) (c.length + d.length - 1) (c.length + d.length - 1)) (by kernel_rfl) (fun _ _ => by kernel_rfl) ?_
  refine S_nil ?_
  refine E_then ?_
  refine C_seq ?_
  refine C_seq ?_
  refine C_region ?_
  refine S_val (.slice ao c.length cap) (by kernel_rfl) (fun _ _ => by kernel_rfl) ?_
  refine S_val (.int .i64 ((c.length : Nat) : Int)) (by kernel_rfl) (fun _ _ => by kernel_rfl) ?_
  refine S_val (.int .i64 0) (by kernel_rfl) (fun _ _ => by kernel_rfl) ?_
  refine S_nil ?_
  refine E_then ?_
  refine C_block ?_
  refine C_loop1 (fun (i : Nat) => (i ≤ c.length)) (fun (i : Nat) => fun g => ⟨#[g 0, .slice ao2 d.length cap2, g 2, g 3, g 4, .slice (some ⟨b1, 0, none⟩) (c.length + d.length - 1) (c.length + d.length - 1), g 6, g 7, g 8, g 9, g 10, g 11, g 12, g 13, g 14, g 15, g 16, g 17, g 18, g 19, g 20, g 21, g 22, g 23, g 24, .slice ao c.length cap, .int .i64 ((c.length : Nat) : Int), .int .i64 ((i : Nat) : Int), g 28, g 29, g 30, g 31, g 32, g 33, g 34, g 35, g 36, g 37, g 38, g 39, g 40, g 41, g 42, g 43, g 44, g 45, g 46, g 47, g 48, g 49, g 50, g 51, g 52, g 53, g 54, g 55, g 56, g 57, g 58], []⟩) (fun (i : Nat) => [⟨b1, ((poutp c d i).flatMap fp), 85⟩]) (fun (i : Nat) => c.length - i) 0 (by (try dsimp only); exact Nat.zero_le _) (by kernel_rfl) (by first | (dsimp only; done) | ((try dsimp only); kernel_rfl)) ?_
  rintro i g2 hi
  refine C_seq ?_
  refine C_region ?_
  refine S_val (.bool (decide (((i : Nat) : Int) < ((c.length : Nat) : Int)))) (by kernel_rfl) (fun _ _ => by kernel_rfl) ?_
  refine S_nil ?_
  refine E_then ?_
  refine C_seq ?_
  refine C_if (decide (((i : Nat) : Int) < ((c.length : Nat) : Int))) (by kernel_rfl) (fun hc => ?_) (fun hc => ?_)
  · replace hc := of_decide_eq_true hc
    obtain ⟨bi3, oi4, rfl, hi5⟩ := hx.op (by omega)
    refine C_skip ?_
    refine E_then ?_
    refine C_seq ?_
    refine C_block ?_
    refine C_seq ?_
    refine C_region ?_
    refine S_val (.int .i64 ((i : Nat) : Int)) (by kernel_rfl) (fun _ _ => by kernel_rfl) ?_
    refine S_val (.pointer (some ⟨bi3, oi4 + i * 2, none⟩)) (by kernel_rfl) (fun w _ => (ixS (k := .i64) bi3 oi4 c.length cap 2 i rfl (by kernel_rfl) (by kernel_rfl) Try.underlying82 Try.sizeOf85 (by omega)) w) ?_
    refine S_val (.agg #[.int .i64 ((c.getD i pz).1), .int .i64 ((c.getD i pz).2)]) (by kernel_rfl) (ldR fp_len pz i bi3 oi4 (oi4 + i * 2) hi5 rfl (by kernel_rfl) rfl (by omega) Try.isAgg85 Try.sizeOf85) ?_
    refine S_newv (fun nb0 => .pointer (some ⟨nb0, 0, none⟩)) [.int .i64 0, .int .i64 0] 85 (by kernel_rfl) (fun w _ => by kernel_rfl) ?_
    intro b6 hb6 Hb6
    refine S_val (.int .i64 ((i : Nat) : Int)) (by kernel_rfl) (fun _ _ => by kernel_rfl) ?_
    refine S_do (by kernel_rfl) (stN (L' := [⟨b6, [.int .i64 ((c.getD i pz).1), .int .i64 ((c.getD i pz).2)], 85⟩, ⟨b1, ((poutp c d i).flatMap fp), 85⟩]) [.int .i64 ((c.getD i pz).1), .int .i64 ((c.getD i pz).2)] 0 b6 0 [.int .i64 0, .int .i64 0] 85 rfl (by kernel_rfl) (by kernel_rfl) Try.sizeOf85 (by simp [Value.oneCell']) (by kernel_rfl) (by simp) (by kernel_rfl)) ?_
    refine S_nil ?_
    refine E_then ?_
    refine C_seq ?_
    refine C_region ?_
    refine S_val (.slice ao2 d.length cap2) (by kernel_rfl) (fun _ _ => by kernel_rfl) ?_
    refine S_val (.int .i64 ((d.length : Nat) : Int)) (by kernel_rfl) (fun _ _ => by kernel_rfl) ?_
    refine S_val (.int .i64 0) (by kernel_rfl) (fun _ _ => by kernel_rfl) ?_
    refine S_nil ?_
    refine E_then ?_
    refine C_block ?_
    refine C_loop1 (fun (j : Nat) => (j ≤ d.length)) (fun (j : Nat) => fun g => ⟨#[g 0, .slice ao2 d.length cap2, g 2, g 3, g 4, .slice (some ⟨b1, 0, none⟩) (c.length + d.length - 1) (c.length + d.length - 1), .int .i64 ((i : Nat) : Int), .pointer (some ⟨b6, 0, none⟩), g 8, g 9, g 10, g 11, g 12, g 13, g 14, g 15, g 16, g 17, g 18, g 19, g 20, g 21, g 22, g 23, g 24, .slice (some ⟨bi3, oi4, none⟩) c.length cap, .int .i64 ((c.length : Nat) : Int), .int .i64 ((i : Nat) : Int), g 28, g 29, g 30, g 31, .slice ao2 d.length cap2, .int .i64 ((d.length : Nat) : Int), .int .i64 ((j : Nat) : Int), g 35, g 36, g 37, g 38, g 39, g 40, g 41, g 42, g 43, g 44, g 45, g 46, g 47, g 48, g 49, g 50, g 51, g 52, g 53, g 54, g 55, g 56, g 57, g 58], []⟩) (fun (j : Nat) => [⟨b6, [.int .i64 ((c.getD i pz).1), .int .i64 ((c.getD i pz).2)], 85⟩, ⟨b1, ((pinp c d i (poutp c d i) j).flatMap fp), 85⟩]) (fun (j : Nat) => d.length - j) 0 (by (try dsimp only); exact Nat.zero_le _) (by kernel_rfl) (by first | (dsimp only; done) | ((try dsimp only); kernel_rfl)) ?_
    rintro j g7 hj
    refine C_seq ?_
    refine C_region ?_
    refine S_val (.bool (decide (((j : Nat) : Int) < ((d.length : Nat) : Int)))) (by kernel_rfl) (fun _ _ => by kernel_rfl) ?_
    refine S_nil ?_
    refine E_then ?_
    refine C_seq ?_
    refine C_if (decide (((j : Nat) : Int) < ((d.length : Nat) : Int))) (by kernel_rfl) (fun hc2 => ?_) (fun hc2 => ?_)
    · replace hc2 := of_decide_eq_true hc2
      obtain ⟨bi8, oi9, rfl, hi10⟩ := hy.op (by omega)
      refine C_skip ?_
      refine E_then ?_
      refine C_seq ?_
      refine C_block ?_
      refine C_seq ?_
      refine C_region ?_
      refine S_val (.int .i64 ((j : Nat) : Int)) (by kernel_rfl) (fun _ _ => by kernel_rfl) ?_
      refine S_val (.pointer (some ⟨bi8, oi9 + j * 2, none⟩)) (by kernel_rfl) (fun w _ => (ixS (k := .i64) bi8 oi9 d.length cap2 2 j rfl (by kernel_rfl) (by kernel_rfl) Try.underlying82 Try.sizeOf85 (by omega)) w) ?_
      refine S_val (.agg #[.int .i64 ((d.getD j pz).1), .int .i64 ((d.getD j pz).2)]) (by kernel_rfl) (ldR fp_len pz j bi8 oi9 (oi9 + j * 2) hi10 rfl (by kernel_rfl) rfl (by omega) Try.isAgg85 Try.sizeOf85) ?_
      refine S_newv (fun nb0 => .pointer (some ⟨nb0, 0, none⟩)) [.int .i64 0, .int .i64 0] 85 (by kernel_rfl) (fun w _ => by kernel_rfl) ?_
      intro b11 hb11 Hb11
      refine S_val (.int .i64 ((j : Nat) : Int)) (by kernel_rfl) (fun _ _ => by kernel_rfl) ?_
      refine S_do (by kernel_rfl) (stN (L' := [⟨b11, [.int .i64 ((d.getD j pz).1), .int .i64 ((d.getD j pz).2)], 85⟩, ⟨b6, [.int .i64 ((c.getD i pz).1), .int .i64 ((c.getD i pz).2)], 85⟩, ⟨b1, ((pinp c d i (poutp c d i) j).flatMap fp), 85⟩]) [.int .i64 ((d.getD j pz).1), .int .i64 ((d.getD j pz).2)] 0 b11 0 [.int .i64 0, .int .i64 0] 85 rfl (by kernel_rfl) (by kernel_rfl) Try.sizeOf85 (by simp [Value.oneCell']) (by kernel_rfl) (by simp) (by kernel_rfl)) ?_
      refine S_nil ?_
      refine E_then ?_
      refine C_drawn [.pure, .pure, .pure, .pure, .pure, .pure, .pure, .pure, .pure, .held, .pure, .held, .pure, .held, .held, .held, .pure, .eff] (by kernel_rfl) (by kernel_rfl) ?_
      refine D_val (.slice (some ⟨b1, 0, none⟩) (c.length + d.length - 1) (c.length + d.length - 1)) (by kernel_rfl) (fun _ => by kernel_rfl) ?_
      refine D_val (.int .i64 ((i : Nat) : Int)) (by kernel_rfl) (fun _ => by kernel_rfl) ?_
      refine D_val (.int .i64 ((j : Nat) : Int)) (by kernel_rfl) (fun _ => by kernel_rfl) ?_
      refine D_val (.int .i64 ((i + j : Nat) : Int)) (by kernel_rfl) (fun _ => fv (v := .int .i64 (IntKind.i64.wrap (((i : Nat) : Int) + ((j : Nat) : Int)))) (vint (w64 (by omega) (by omega) (by omega))) (by kernel_rfl)) ?_
      refine D_val (.slice (some ⟨b1, 0, none⟩) (c.length + d.length - 1) (c.length + d.length - 1)) (by kernel_rfl) (fun _ => by kernel_rfl) ?_
      refine D_val (.int .i64 ((i : Nat) : Int)) (by kernel_rfl) (fun _ => by kernel_rfl) ?_
      refine D_val (.int .i64 ((j : Nat) : Int)) (by kernel_rfl) (fun _ => by kernel_rfl) ?_
      refine D_val (.int .i64 ((i + j : Nat) : Int)) (by kernel_rfl) (fun _ => fv (v := .int .i64 (IntKind.i64.wrap (((i : Nat) : Int) + ((j : Nat) : Int)))) (vint (w64 (by omega) (by omega) (by omega))) (by kernel_rfl)) ?_
      refine D_val (.pointer (some ⟨b1, 0 + (i + j) * 2, none⟩)) (by kernel_rfl) (ixS (k := .i64) b1 0 (c.length + d.length - 1) (c.length + d.length - 1) 2 (i + j) rfl (by kernel_rfl) (by kernel_rfl) Try.underlying82 Try.sizeOf85 (by omega)) ?_
      refine D_held (.agg #[.int .i64 (((pinp c d i (poutp c d i) j).getD (i + j) pz).1), .int .i64 (((pinp c d i (poutp c d i) j).getD (i + j) pz).2)]) (by kernel_rfl) (ldF fp_len (pinp c d i (poutp c d i) j) pz (i + j) (0 + (i + j) * 2) 2 b1 85 rfl (by kernel_rfl) (by omega) (by rw [pinp_length, poutp_length]; omega) Try.isAgg85 Try.sizeOf85 (by kernel_rfl)) ?_
      refine D_val (.iface 85 (.agg #[.int .i64 (((pinp c d i (poutp c d i) j).getD (i + j) pz).1), .int .i64 (((pinp c d i (poutp c d i) j).getD (i + j) pz).2)])) (by kernel_rfl) (fun _ => by kernel_rfl) ?_
      refine D_held (.agg #[.int .i64 ((c.getD i pz).1), .int .i64 ((c.getD i pz).2)]) (by kernel_rfl) (ldN [.int .i64 ((c.getD i pz).1), .int .i64 ((c.getD i pz).2)] 1 b6 0 [.int .i64 ((c.getD i pz).1), .int .i64 ((c.getD i pz).2)] 85 rfl (by kernel_rfl) Try.isAgg85 Try.sizeOf85 (by kernel_rfl) (by kernel_rfl)) ?_
      refine D_val (.iface 85 (.agg #[.int .i64 ((c.getD i pz).1), .int .i64 ((c.getD i pz).2)])) (by kernel_rfl) (fun _ => by kernel_rfl) ?_
      refine D_held (.agg #[.int .i64 ((d.getD j pz).1), .int .i64 ((d.getD j pz).2)]) (by kernel_rfl) (ldN [.int .i64 ((d.getD j pz).1), .int .i64 ((d.getD j pz).2)] 0 b11 0 [.int .i64 ((d.getD j pz).1), .int .i64 ((d.getD j pz).2)] 85 rfl (by kernel_rfl) Try.isAgg85 Try.sizeOf85 (by kernel_rfl) (by kernel_rfl)) ?_
      refine D_pure (v := .agg #[.int .i64 ((pm (c.getD i pz) (d.getD j pz)).1), .int .i64 ((pm (c.getD i pz) (d.getD j pz)).2)]) (by kernel_rfl) (c_pmul (c.getD i pz) (d.getD j pz)) (fun _ => by kernel_rfl) ?_
      refine D_pure (v := .agg #[.int .i64 ((pa ((pinp c d i (poutp c d i) j).getD (i + j) pz) (pm (c.getD i pz) (d.getD j pz))).1), .int .i64 ((pa ((pinp c d i (poutp c d i) j).getD (i + j) pz) (pm (c.getD i pz) (d.getD j pz))).2)]) (by kernel_rfl) (c_padd ((pinp c d i (poutp c d i) j).getD (i + j) pz) (pm (c.getD i pz) (d.getD j pz))) (fun _ => by kernel_rfl) ?_
      refine D_val (.pointer (some ⟨b1, 0 + (i + j) * 2, none⟩)) (by kernel_rfl) (ixS (k := .i64) b1 0 (c.length + d.length - 1) (c.length + d.length - 1) 2 (i + j) rfl (by kernel_rfl) (by kernel_rfl) Try.underlying82 Try.sizeOf85 (by omega)) ?_
      refine D_do (by kernel_rfl) (stF (L' := [⟨b11, [.int .i64 ((d.getD j pz).1), .int .i64 ((d.getD j pz).2)], 85⟩, ⟨b6, [.int .i64 ((c.getD i pz).1), .int .i64 ((c.getD i pz).2)], 85⟩, ⟨b1, (((pinp c d i (poutp c d i) j).set (i + j) (pa ((pinp c d i (poutp c d i) j).getD (i + j) pz) (pm (c.getD i pz) (d.getD j pz)))).flatMap fp), 85⟩]) fp_len fp_one (pinp c d i (poutp c d i) j) (pa ((pinp c d i (poutp c d i) j).getD (i + j) pz) (pm (c.getD i pz) (d.getD j pz))) (i + j) (0 + (i + j) * 2) 2 b1 85 rfl (by kernel_rfl) (by kernel_rfl) (by omega) (by rw [pinp_length, poutp_length]; omega) Try.sizeOf85 (by kernel_rfl) (by kernel_rfl)) ?_
      refine D_nil ?_
      refine E_inblock ?_
      refine E_then ?_
      refine C_region ?_
      refine S_val (.int .i64 ((j + 1 : Nat) : Int)) (by kernel_rfl) (fun _ _ => fv (v := .int .i64 (IntKind.i64.wrap (((j : Nat) : Int) + 1))) (vint (w64 (by omega) (by omega) (by omega))) (by kernel_rfl)) ?_
      refine S_val (.int .i64 ((j + 1 : Nat) : Int)) (by kernel_rfl) (fun _ _ => by kernel_rfl) ?_
      refine S_nil ?_
      exact E_norm (fun w hw => ⟨j + 1, by omega, (by kernel_rfl), (by (try dsimp only); omega), hw.tail⟩)
    · replace hc2 := of_decide_eq_false hc2
      obtain rfl : j = d.length := by omega
      refine C_exit ?_
      refine E_pass_exit ?_
      refine E_pass_exit ?_
      refine E_outblock ?_
      refine E_inblock ?_
      refine E_then ?_
      refine C_region ?_
      refine S_val (.int .i64 ((i + 1 : Nat) : Int)) (by kernel_rfl) (fun _ _ => fv (v := .int .i64 (IntKind.i64.wrap (((i : Nat) : Int) + 1))) (vint (w64 (by omega) (by omega) (by omega))) (by kernel_rfl)) ?_
      refine S_val (.int .i64 ((i + 1 : Nat) : Int)) (by kernel_rfl) (fun _ _ => by kernel_rfl) ?_
      refine S_nil ?_
      exact E_norm (fun w hw => ⟨i + 1, by omega, (by kernel_rfl), (by (try dsimp only); omega), hw.tail⟩)
  · replace hc := of_decide_eq_false hc
    obtain rfl : i = c.length := by omega
    refine C_exit ?_
    refine E_pass_exit ?_
    refine E_pass_exit ?_
    refine E_outblock ?_
    refine E_then ?_
    refine C_seq ?_
    refine C_region ?_
    refine S_val (.slice (some ⟨b1, 0, none⟩) (c.length + d.length - 1) (c.length + d.length - 1)) (by kernel_rfl) (fun _ _ => by kernel_rfl) ?_
    refine S_val (.slice (some ⟨b1, 0, none⟩) (c.length + d.length - 1) (c.length + d.length - 1)) (by kernel_rfl) (fun _ _ => by kernel_rfl) ?_
    refine S_nil ?_
    refine E_then ?_
    refine C_ret ?_
    exact gives_row (mk := (fun v => v)) (Rw.whole' fp_len b1 (poutp c d c.length) (c.length + d.length - 1) (by exact poutp_length _ _ _) (le_maxLen (by omega))) (sub1 0 (by kernel_rfl)) rfl (res1 Try.results49 (by kernel_rfl))
theorem c_productp (w0 : World) (v u : Value) (c d : List (Int × Int)) (hv : Rd w0 v 2 fp c) (hu : Rd w0 u 2 fp d) (hl1 : c.length ≤ 1099511627776) (hl2 : d.length ≤ 1099511627776) : Gives Try.prog 49 #[v, u] w0 85 2 (prp c d).length ((prp c d).flatMap fp) (fun v => v) := by
  by_cases h1 : c.length = 0
  · have e : prp c d = [] := by rw [prp, if_pos (.inl h1)]
    rw [e]; exact c_productp_nil1 w0 v u c d hv hu h1 (by omega)
  · by_cases h2 : d.length = 0
    · have e : prp c d = [] := by rw [prp, if_pos (.inr h2)]
      rw [e]; exact c_productp_nil2 w0 v u c d hv hu (by omega) h2 (by omega)
    · have e : prp c d = poutp c d c.length := by rw [prp, if_neg (by rintro (h | h) <;> contradiction)]
      rw [e, poutp_length]; exact c_productp_on w0 v u c d hv hu (by omega) (by omega) hl1 hl2
theorem c_pairs (w0 : World) (v : Value) (l : List Int) (hv : Rd w0 v 1 f7 l) : Gives Try.prog 47 #[v] w0 85 2 ((pl l).length) ((pl l).flatMap fp) (fun v => v) := by
  obtain ⟨ao, cap, rfl, hx⟩ := hv.o
  unfold Gives
  refine calls_start Try.func47 rfl ?_
  refine C_seq ?_
  refine C_region ?_
  refine S_val (.slice none 0 0) (by kernel_rfl) (fun _ _ => by kernel_rfl) ?_
  refine S_nil ?_
  refine E_then ?_
  refine C_seq ?_
  refine C_region ?_
  refine S_val (.slice none 0 0) (by kernel_rfl) (fun _ _ => by kernel_rfl) ?_
  refine S_nil ?_
  refine E_then ?_
  refine C_seq ?_
  refine C_seq ?_
  refine C_region ?_
  refine S_val (.int .i64 0) (by kernel_rfl) (fun _ _ => by kernel_rfl) ?_
  refine S_nil ?_
  refine E_then ?_
  refine C_block ?_
  refine C_loop3 (fun (i : Nat) (v : Value) (ob : List B) => (i ≤ l.length) ∧ (i ≤ 40) ∧ (Rw 85 2 v i (((l.take i).map pp).flatMap fp) ob)) (fun (i : Nat) (v : Value) (ob : List B) => fun g => ⟨#[.slice ao l.length cap, g 1, g 2, v, .int .i64 ((i : Nat) : Int), g 5, g 6, g 7, g 8, g 9, g 10, g 11, g 12, g 13, g 14, g 15, g 16, g 17, g 18, g 19, g 20, g 21, g 22, g 23, g 24, g 25, g 26, g 27, g 28, g 29], []⟩) (fun (i : Nat) (v : Value) (ob : List B) => [] ++ ob) (fun (i : Nat) (v : Value) (ob : List B) => l.length - i) 0 (.slice none 0 0) [] (by (try dsimp only); exact ⟨Nat.zero_le _, Nat.zero_le _, Rw.nil 85 2⟩) (by kernel_rfl) (by first | (dsimp only; done) | ((try dsimp only); kernel_rfl)) ?_
  rintro i v ob g1 ⟨hi, hi40, hr⟩
  refine C_seq ?_
  refine C_seq ?_
  by_cases h1 : i < l.length
  · refine C_region ?_
    refine S_val (.int .i64 ((i : Nat) : Int)) (by kernel_rfl) (fun _ _ => by kernel_rfl) ?_
    refine S_val (.slice ao l.length cap) (by kernel_rfl) (fun _ _ => by kernel_rfl) ?_
    refine S_val (.int .i64 ((l.length : Nat) : Int)) (by kernel_rfl) (fun _ _ => by kernel_rfl) ?_
    refine S_val (.bool true) (by kernel_rfl) (fun _ _ => fv (v := .bool (decide (((i : Nat) : Int) < ((l.length : Nat) : Int)))) (vbool (decide_eq_true (by omega))) (by kernel_rfl)) ?_
    refine S_val (.bool true) (by kernel_rfl) (fun _ _ => by kernel_rfl) ?_
    refine S_val (.int .i64 ((i : Nat) : Int)) (by kernel_rfl) (fun _ _ => by kernel_rfl) ?_
    refine S_val (.bool (decide (((i : Nat) : Int) < 40))) (by kernel_rfl) (fun _ _ => by kernel_rfl) ?_
    refine S_val (.bool (decide (((i : Nat) : Int) < 40))) (by kernel_rfl) (fun _ _ => by kernel_rfl) ?_
    refine S_nil ?_
    refine E_then ?_
    refine C_if (decide (((i : Nat) : Int) < 40)) (by kernel_rfl) (fun h2 => ?_) (fun h2 => ?_)
    · replace h2 := of_decide_eq_true h2
      obtain ⟨bi2, oi3, rfl, hi4⟩ := hx.op (by omega)
      refine C_skip ?_
      refine E_then ?_
      refine C_seq ?_
      refine C_block ?_
      refine C_drawn [.pure, .pure, .pure, .pure, .pure, .pure, .pure, .pure, .pure, .pure, .pure, .pure, .eff, .eff, .pure] (by kernel_rfl) (by kernel_rfl) ?_
      refine D_val (v) (by kernel_rfl) (fun _ => by kernel_rfl) ?_
      refine D_val (.slice (some ⟨bi2, oi3, none⟩) l.length cap) (by kernel_rfl) (fun _ => by kernel_rfl) ?_
      refine D_val (.int .i64 ((i : Nat) : Int)) (by kernel_rfl) (fun _ => by kernel_rfl) ?_
      refine D_val (.pointer (some ⟨bi2, oi3 + i * 1, none⟩)) (by kernel_rfl) (ixS (k := .i64) bi2 oi3 l.length cap 1 i rfl (by kernel_rfl) (by kernel_rfl) Try.underlying67 Try.sizeOf3 (by omega)) ?_
      refine D_old (.int .i64 (l.getD i 0)) (by kernel_rfl) (ldR1 (v := .int .i64 (l.getD i 0)) 0 i 0 bi2 oi3 (oi3 + i * 1) hi4 rfl (by kernel_rfl) rfl (by omega) rfl Try.isAgg3) ?_
      refine D_val (.int .i64 ((l.getD i 0).tmod 35)) (by kernel_rfl) (fun _ => by kernel_rfl) ?_
      refine D_val (.slice (some ⟨bi2, oi3, none⟩) l.length cap) (by kernel_rfl) (fun _ => by kernel_rfl) ?_
      refine D_val (.int .i64 ((i : Nat) : Int)) (by kernel_rfl) (fun _ => by kernel_rfl) ?_
      refine D_val (.pointer (some ⟨bi2, oi3 + i * 1, none⟩)) (by kernel_rfl) (ixS (k := .i64) bi2 oi3 l.length cap 1 i rfl (by kernel_rfl) (by kernel_rfl) Try.underlying67 Try.sizeOf3 (by omega)) ?_
      refine D_old (.int .i64 (l.getD i 0)) (by kernel_rfl) (ldR1 (v := .int .i64 (l.getD i 0)) 0 i 0 bi2 oi3 (oi3 + i * 1) hi4 rfl (by kernel_rfl) rfl (by omega) rfl Try.isAgg3) ?_
      refine D_val (.int .i64 ((l.getD i 0).tmod 35)) (by kernel_rfl) (fun _ => by kernel_rfl) ?_
      refine D_val (.agg #[.int .i64 ((l.getD i 0).tmod 35), .int .i64 ((l.getD i 0).tmod 35)]) (by kernel_rfl) (fun _ => by kernel_rfl) ?_
      refine D_newv (fun nb0 => .slice (some ⟨nb0, 0, none⟩) 1 1) [.int .i64 ((l.getD i 0).tmod 35), .int .i64 ((l.getD i 0).tmod 35)] 85 (by kernel_rfl) (fun w _ => by kernel_rfl) ?_
      intro b5 hb5 Hb5
      refine D_app (sz := 2) (n := i + 1) (xs := (((l.take i).map pp).flatMap fp) ++ [.int .i64 ((l.getD i 0).tmod 35), .int .i64 ((l.getD i 0).tmod 35)]) (fun ob' => [⟨b5, [.int .i64 ((l.getD i 0).tmod 35), .int .i64 ((l.getD i 0).tmod 35)], 85⟩] ++ ob') (Rw.inh (m := 1) hr.1 (by kernel_rfl) (le_maxLen (by omega))) (by intro ob'; simp) (by kernel_rfl) (up_app (L1 := [⟨b5, [.int .i64 ((l.getD i 0).tmod 35), .int .i64 ((l.getD i 0).tmod 35)], 85⟩]) (ob := ob) (L2 := []) (n := i) (xs := (((l.take i).map pp).flatMap fp)) 82 85 Try.t85 (.agg #[.int .i64 0, .int .i64 0]) Try.underlying82 (by kernel_rfl) (by kernel_rfl) (by kernel_rfl) rfl hr (by simp) ⟨b5, 0, none⟩ 1 1 [.int .i64 ((l.getD i 0).tmod 35), .int .i64 ((l.getD i 0).tmod 35)] (by kernel_rfl) (by kernel_rfl) (by kernel_rfl) (fun w hO j9 u9 hu => by rw [add_none, Nat.zero_add, hO.cellAt 0 (b := b5) (cs := [.int .i64 ((l.getD i 0).tmod 35), .int .i64 ((l.getD i 0).tmod 35)]) (ty := 85) (by kernel_rfl)]; exact hu) (by simp [Value.oneCell']) (by decide) (by simp only [Try.t85]; omega) (le_maxLen (by omega))) ?_
      intro v6 ob7 hr8
      replace hr8 : Rw 85 2 v6 (i + 1) ((((l.take i).map pp) ++ [((l.getD i 0).tmod 35, (l.getD i 0).tmod 35)]).flatMap fp) ob7 := by first | exact hr8 | (rw [List.flatMap_append]; exact hr8)
      refine D_val (v6) (by kernel_rfl) (fun _ => by kernel_rfl) ?_
      refine D_nil ?_
      refine E_inblock ?_
      refine E_then ?_
      refine C_region ?_
      refine S_val (.int .i64 ((i : Nat) : Int)) (by kernel_rfl) (fun _ _ => by kernel_rfl) ?_
      refine S_val (.int .i64 ((i + 1 : Nat) : Int)) (by kernel_rfl) (fun _ _ => fv (v := .int .i64 (IntKind.i64.wrap (((i : Nat) : Int) + 1))) (vint (w64 (by omega) (by omega) (by omega))) (by kernel_rfl)) ?_
      refine S_val (.int .i64 ((i + 1 : Nat) : Int)) (by kernel_rfl) (fun _ _ => by kernel_rfl) ?_
      refine S_nil ?_
      exact E_norm (fun w hw => ⟨i + 1, v6, ob7, ⟨by omega, by omega, by rw [take_snoc _ h1 0, List.map_append]; exact hr8⟩, (by kernel_rfl), (by (try dsimp only); omega), hw.sub (by simp)⟩)
    · replace h2 := of_decide_eq_false h2
      refine C_exit ?_
      refine E_pass_exit ?_
      refine E_pass_exit ?_
      refine E_outblock ?_
      refine E_then ?_
      refine C_seq ?_
      refine C_region ?_
      refine S_val (v) (by kernel_rfl) (fun _ _ => by kernel_rfl) ?_
      refine S_val (v) (by kernel_rfl) (fun _ _ => by kernel_rfl) ?_
      refine S_nil ?_
      refine E_then ?_
      refine C_ret ?_
      have e : (l.take i).map pp = pl l := by rw [pl, take_eq (i := i) (m := 40) (by omega)]
      have e2 : i = (pl l).length := by rw [← e]; simp; omega
      exact gives_row (mk := fun v => v) (n := (pl l).length) (xs := (pl l).flatMap fp) (by rw [← e, ← show i = ((l.take i).map pp).length by rw [e]; exact e2]; exact hr) (List.sublist_append_right _ _) rfl (res1 Try.results47 (by kernel_rfl))
  · refine C_region ?_
    refine S_val (.int .i64 ((i : Nat) : Int)) (by kernel_rfl) (fun _ _ => by kernel_rfl) ?_
    refine S_val (.slice ao l.length cap) (by kernel_rfl) (fun _ _ => by kernel_rfl) ?_
    refine S_val (.int .i64 ((l.length : Nat) : Int)) (by kernel_rfl) (fun _ _ => by kernel_rfl) ?_
    refine S_val (.bool false) (by kernel_rfl) (fun _ _ => fv (v := .bool (decide (((i : Nat) : Int) < ((l.length : Nat) : Int)))) (vbool (decide_eq_false (by omega))) (by kernel_rfl)) ?_
    refine S_val (.bool false) (by kernel_rfl) (fun _ _ => by kernel_rfl) ?_
    refine S_not (by kernel_rfl) ?_
    refine S_not (by kernel_rfl) ?_
    refine S_val (.bool false) (by kernel_rfl) (fun _ _ => by kernel_rfl) ?_
    refine S_nil ?_
    refine E_then ?_
    refine C_false (by kernel_rfl) ?_
    refine C_exit ?_
    refine E_pass_exit ?_
    refine E_pass_exit ?_
    refine E_outblock ?_
    refine E_then ?_
    refine C_seq ?_
    refine C_region ?_
    refine S_val (v) (by kernel_rfl) (fun _ _ => by kernel_rfl) ?_
    refine S_val (v) (by kernel_rfl) (fun _ _ => by kernel_rfl) ?_
    refine S_nil ?_
    refine E_then ?_
    refine C_ret ?_
    have e : (l.take i).map pp = pl l := by rw [pl, take_eq (i := i) (m := 40) (by omega)]
    have e2 : i = (pl l).length := by rw [← e]; simp; omega
    exact gives_row (mk := fun v => v) (n := (pl l).length) (xs := (pl l).flatMap fp) (by rw [← e, ← show i = ((l.take i).map pp).length by rw [e]; exact e2]; exact hr) (List.sublist_append_right _ _) rfl (res1 Try.results47 (by kernel_rfl))
end Go.Vk
