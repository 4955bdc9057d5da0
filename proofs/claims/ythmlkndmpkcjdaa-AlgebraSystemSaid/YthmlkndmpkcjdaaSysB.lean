/- What functions of the program do: walks, printed by a program of my own. -/
import Derived.Test.YthmlkndmpkcjdaaSysL
set_option linter.unusedVariables false
set_option linter.unusedSimpArgs false
namespace Go.Vk
open Go Go.RowKit Go.Proofs
theorem walk_system0 (w0 : World) (vm vr : Value) (m r : List Int) (n0 : Int) (hn0 : n0 % 4 = 0) (hvm : Rd w0 vm 1 f7 m) (hvr : Rd w0 vr 1 f7 r) : Calls Try.prog 7 #[vm, .int .i64 n0, vr] w0 fun e w' => e = .returned (.bool true) ∧ Below w0.heap.size w0 w' := by
  have htm := tb4 n0
  refine calls_start Try.func7 rfl ?_
  refine C_seq ?_
  refine C_region ?_
  refine S_val (.bool false) (by kernel_rfl) (fun _ _ => by kernel_rfl) ?_
  refine S_nil ?_
  refine E_then ?_
  refine C_seq ?_
  refine C_seq ?_
  refine C_region ?_
  refine S_pure (v := .bool true) (by kernel_rfl) c_alive (fun _ => by kernel_rfl) ?_
  refine S_val (.bool false) (by kernel_rfl) (fun _ _ => by kernel_rfl) ?_
  refine S_nil ?_
  refine E_then ?_
  refine C_false (by kernel_rfl) ?_
  refine C_skip ?_
  refine E_then ?_
  refine C_seq ?_
  refine C_region ?_
  refine S_val (.int .i64 n0) (by kernel_rfl) (fun _ _ => by kernel_rfl) ?_
  refine S_val (.int .i64 (n0.tmod 4)) (by kernel_rfl) (fun _ _ => by kernel_rfl) ?_
  refine S_val (.int .i64 (n0.tmod 4 + 4)) (by kernel_rfl) (fun _ _ => fv (v := .int .i64 (IntKind.i64.wrap ((n0.tmod 4) + 4))) (vint (w64 rfl (by omega) (by omega))) (by kernel_rfl)) ?_
  refine S_val (.int .i64 0) (by kernel_rfl) (fun _ _ => fv (v := .int .i64 ((n0.tmod 4 + 4).tmod 4)) (vint (by rw [m4]; exact hn0)) (by kernel_rfl)) ?_
  refine S_val (.int .i64 0) (by kernel_rfl) (fun _ _ => by kernel_rfl) ?_
  refine S_nil ?_
  refine E_then ?_
  refine C_seq ?_
  refine C_region ?_
  refine S_val (vm) (by kernel_rfl) (fun _ _ => by kernel_rfl) ?_
  refine S_gives (mk := fun v0 => v0) (by kernel_rfl) (fun _ _ => by kernel_rfl) (fun w hO => (c_sevens w vm m (hvm.own hO))) ?_
  intro v1 ob2 hr3
  obtain ⟨ao4, cap5, rfl⟩ := hr3.len
  refine S_val (.slice ao4 (min m.length 40) cap5) (by kernel_rfl) (fun _ _ => by kernel_rfl) ?_
  refine S_nil ?_
  refine E_then ?_
  refine C_seq ?_
  refine C_block ?_
  refine C_unroll 1 ?_
  refine R_succ ?_
  refine C_seq ?_
  refine C_seq ?_
  refine C_region ?_
  refine S_val (.slice ao4 (min m.length 40) cap5) (by kernel_rfl) (fun _ _ => by kernel_rfl) ?_
  refine S_val (.int .i64 (((min m.length 40) : Nat) : Int)) (by kernel_rfl) (fun _ _ => by kernel_rfl) ?_
  refine S_val (.int .i64 0) (by kernel_rfl) (fun _ _ => by kernel_rfl) ?_
  refine S_val (.int .i64 0) (by kernel_rfl) (fun _ _ => by kernel_rfl) ?_
  refine S_val (.int .i64 0) (by kernel_rfl) (fun _ _ => by kernel_rfl) ?_
  refine S_val (.bool false) (by kernel_rfl) (fun _ _ => fv (v := .bool (decide ((((min m.length 40) : Nat) : Int) < 0))) (vbool (decide_eq_false (by omega))) (by kernel_rfl)) ?_
  refine S_nil ?_
  refine E_then ?_
  refine C_false (by kernel_rfl) ?_
  refine C_exit ?_
  refine E_pass_exit ?_
  refine E_pass_exit ?_
  refine E_outblock ?_
  refine E_then ?_
  refine C_seq ?_
  refine C_region ?_
  refine S_val (vr) (by kernel_rfl) (fun _ _ => by kernel_rfl) ?_
  refine S_gives (mk := fun v0 => v0) (by kernel_rfl) (fun _ _ => by kernel_rfl) (fun w hO => (c_sevens w vr r (hvr.own hO))) ?_
  intro v6 ob7 hr8
  obtain ⟨ao9, cap10, rfl⟩ := hr8.len
  refine S_val (.slice ao9 (min r.length 40) cap10) (by kernel_rfl) (fun _ _ => by kernel_rfl) ?_
  refine S_nil ?_
  refine E_then ?_
  refine C_seq ?_
  refine C_block ?_
  refine C_unroll 1 ?_
  refine R_succ ?_
  refine C_seq ?_
  refine C_seq ?_
  refine C_region ?_
  refine S_val (.slice ao9 (min r.length 40) cap10) (by kernel_rfl) (fun _ _ => by kernel_rfl) ?_
  refine S_val (.int .i64 (((min r.length 40) : Nat) : Int)) (by kernel_rfl) (fun _ _ => by kernel_rfl) ?_
  refine S_val (.int .i64 0) (by kernel_rfl) (fun _ _ => by kernel_rfl) ?_
  refine S_val (.bool false) (by kernel_rfl) (fun _ _ => fv (v := .bool (decide ((((min r.length 40) : Nat) : Int) < 0))) (vbool (decide_eq_false (by omega))) (by kernel_rfl)) ?_
  refine S_nil ?_
  refine E_then ?_
  refine C_false (by kernel_rfl) ?_
  refine C_exit ?_
  refine E_pass_exit ?_
  refine E_pass_exit ?_
  refine E_outblock ?_
  refine E_then ?_
  refine C_seq ?_
  refine C_region ?_
  refine S_val (.slice ao9 (min r.length 40) cap10) (by kernel_rfl) (fun _ _ => by kernel_rfl) ?_
  refine S_val (.int .i64 0) (by kernel_rfl) (fun _ _ => by kernel_rfl) ?_
  refine S_val (.slice ao9 0 cap10) (by kernel_rfl) (fun w _ => (sl0 (k := .i64) (h := 0) Try.underlying69 Try.sizeOf72 rfl (by kernel_rfl) (by kernel_rfl) (by omega) (Rw.lecap hr8)) w) ?_
  refine S_val (.slice ao9 0 cap10) (by kernel_rfl) (fun _ _ => by kernel_rfl) ?_
  refine S_nil ?_
  refine E_then ?_
  refine C_seq ?_
  refine C_region ?_
  refine S_val (.slice none 0 0) (by kernel_rfl) (fun _ _ => by kernel_rfl) ?_
  refine S_nil ?_
  refine E_then ?_
  refine C_seq ?_
  refine C_seq ?_
  refine C_region ?_
  refine S_val (.int .i64 0) (by kernel_rfl) (fun _ _ => by kernel_rfl) ?_
  refine S_nil ?_
  refine E_then ?_
  refine C_block ?_
  refine C_unroll 1 ?_
  refine R_succ ?_
  refine C_seq ?_
  refine C_seq ?_
  refine C_region ?_
  refine S_val (.int .i64 0) (by kernel_rfl) (fun _ _ => by kernel_rfl) ?_
  refine S_val (.int .i64 0) (by kernel_rfl) (fun _ _ => by kernel_rfl) ?_
  refine S_val (.bool false) (by kernel_rfl) (fun _ _ => by kernel_rfl) ?_
  refine S_nil ?_
  refine E_then ?_
  refine C_false (by kernel_rfl) ?_
  refine C_exit ?_
  refine E_pass_exit ?_
  refine E_pass_exit ?_
  refine E_outblock ?_
  refine E_then ?_
  refine C_seq ?_
  refine C_region ?_
  refine S_val (.slice none 0 0) (by kernel_rfl) (fun _ _ => by kernel_rfl) ?_
  refine S_val (.slice ao9 0 cap10) (by kernel_rfl) (fun _ _ => by kernel_rfl) ?_
  refine S_call2 (fun x : SolOk [] [] 0 => .tuple #[x.1.2.1, .int .i64 0]) (fun x => x.1.2.2) (fun _ : SolNo [] [] 0 => .tuple #[.slice none 0 0, .int .i64 61]) (fun _ => []) (by kernel_rfl) (fun _ _ => by kernel_rfl) (fun w hO => c_solve' w (.slice none 0 0) (.slice ao9 0 cap10) [] [] 0 (by decide) rfl (fun i hi => by omega) rfl Rdm.nil Rd0) ?_ ?_
  · rintro ⟨⟨R, v, ob⟩, hG, hw⟩
    dsimp only at hG hw
    obtain ⟨ao, cap, rfl⟩ := hw.len
    refine S_val (.tuple #[.slice ao 0 cap, .int .i64 0]) (by kernel_rfl) (fun _ _ => by kernel_rfl) ?_
    refine S_val (.slice ao 0 cap) (by kernel_rfl) (fun _ _ => by kernel_rfl) ?_
    refine S_val (.int .i64 0) (by kernel_rfl) (fun _ _ => by kernel_rfl) ?_
    refine S_val (.slice ao 0 cap) (by kernel_rfl) (fun _ _ => by kernel_rfl) ?_
    refine S_val (.int .i64 0) (by kernel_rfl) (fun _ _ => by kernel_rfl) ?_
    refine S_nil ?_
    refine E_then ?_
    refine C_seq ?_
    refine C_seq ?_
    refine C_region ?_
    refine S_val (.int .i64 0) (by kernel_rfl) (fun _ _ => by kernel_rfl) ?_
    refine S_val (.bool true) (by kernel_rfl) (fun _ _ => by kernel_rfl) ?_
    refine S_nil ?_
    refine E_then ?_
    refine C_true (by kernel_rfl) ?_
    refine C_seq ?_
    refine C_seq ?_
    refine C_region ?_
    refine S_val (.slice ao 0 cap) (by kernel_rfl) (fun _ _ => by kernel_rfl) ?_
    refine S_val (.int .i64 0) (by kernel_rfl) (fun _ _ => by kernel_rfl) ?_
    refine S_val (.int .i64 0) (by kernel_rfl) (fun _ _ => by kernel_rfl) ?_
    refine S_val (.bool false) (by kernel_rfl) (fun _ _ => by kernel_rfl) ?_
    refine S_nil ?_
    refine E_then ?_
    refine C_false (by kernel_rfl) ?_
    refine C_skip ?_
    refine E_then ?_
    refine C_seq ?_
    refine C_seq ?_
    refine C_region ?_
    refine S_val (.int .i64 0) (by kernel_rfl) (fun _ _ => by kernel_rfl) ?_
    refine S_nil ?_
    refine E_then ?_
    refine C_block ?_
    refine C_unroll 1 ?_
    refine R_succ ?_
    refine C_seq ?_
    refine C_seq ?_
    refine C_region ?_
    refine S_val (.int .i64 0) (by kernel_rfl) (fun _ _ => by kernel_rfl) ?_
    refine S_val (.int .i64 0) (by kernel_rfl) (fun _ _ => by kernel_rfl) ?_
    refine S_val (.bool false) (by kernel_rfl) (fun _ _ => by kernel_rfl) ?_
    refine S_nil ?_
    refine E_then ?_
    refine C_false (by kernel_rfl) ?_
    refine C_exit ?_
    refine E_pass_exit ?_
    refine E_pass_exit ?_
    refine E_outblock ?_
    refine E_then ?_
    refine C_seq ?_
    refine C_region ?_
    refine S_val (.slice none 0 0) (by kernel_rfl) (fun _ _ => by kernel_rfl) ?_
    refine S_call (by kernel_rfl) (fun _ _ => by kernel_rfl) (fun w hO => ((c_hangs w _ [] 0 (by decide) rfl (fun i hi => by omega) Rdm.nil)).mono fun _ _ ⟨he, hb⟩ => ⟨.bool (hgb [] 0), _, he, hO.call hb, ?_⟩)
    refine S_val (.bool true) (by kernel_rfl) (fun _ _ => fv (v := .bool (!(hgb [] 0))) (vbool (by rw [hgb_f hang0]; rfl)) (by kernel_rfl)) ?_
    refine S_val (.bool true) (by kernel_rfl) (fun _ _ => by kernel_rfl) ?_
    refine S_nil ?_
    refine E_then ?_
    refine C_ret ?_
    refine E_pass_ret ?_
    exact pure_ret rfl (res1 Try.results7 (by kernel_rfl))
  · rintro ⟨⟨k, R⟩, hG, hk, hz⟩
    exact absurd hk (Nat.not_lt_zero _)
theorem walk_system1 (w0 : World) (vm vr : Value) (m r : List Int) (n0 : Int) (n : Nat) (hn0 : n0 % 4 = (n : Int)) (h1 : 1 ≤ n) (h3 : n ≤ 3) (hvm : Rd w0 vm 1 f7 m) (hvr : Rd w0 vr 1 f7 r) : Calls Try.prog 7 #[vm, .int .i64 n0, vr] w0 fun e w' => e = .returned (.bool true) ∧ Below w0.heap.size w0 w' := by
  obtain ⟨M, hM⟩ : ∃ M, M = n * n := ⟨_, rfl⟩
  have hM9 : M ≤ 9 := by rw [hM]; exact nn3 h3
  have hMn : n ≤ M := by rw [hM]; exact Nat.le_mul_of_pos_left n (by omega)
  have htm := tb4 n0
  refine calls_start Try.func7 rfl ?_
  refine C_seq ?_
  refine C_region ?_
  refine S_val (.bool false) (by kernel_rfl) (fun _ _ => by kernel_rfl) ?_
  refine S_nil ?_
  refine E_then ?_
  refine C_seq ?_
  refine C_seq ?_
  refine C_region ?_
  refine S_pure (v := .bool true) (by kernel_rfl) c_alive (fun _ => by kernel_rfl) ?_
  refine S_val (.bool false) (by kernel_rfl) (fun _ _ => by kernel_rfl) ?_
  refine S_nil ?_
  refine E_then ?_
  refine C_false (by kernel_rfl) ?_
  refine C_skip ?_
  refine E_then ?_
  refine C_seq ?_
  refine C_region ?_
  refine S_val (.int .i64 n0) (by kernel_rfl) (fun _ _ => by kernel_rfl) ?_
  refine S_val (.int .i64 (n0.tmod 4)) (by kernel_rfl) (fun _ _ => by kernel_rfl) ?_
  refine S_val (.int .i64 (n0.tmod 4 + 4)) (by kernel_rfl) (fun _ _ => fv (v := .int .i64 (IntKind.i64.wrap ((n0.tmod 4) + 4))) (vint (w64 rfl (by omega) (by omega))) (by kernel_rfl)) ?_
  refine S_val (.int .i64 ((n : Nat) : Int)) (by kernel_rfl) (fun _ _ => fv (v := .int .i64 ((n0.tmod 4 + 4).tmod 4)) (vint (by rw [m4]; exact hn0)) (by kernel_rfl)) ?_
  refine S_val (.int .i64 ((n : Nat) : Int)) (by kernel_rfl) (fun _ _ => by kernel_rfl) ?_
  refine S_nil ?_
  refine E_then ?_
  refine C_seq ?_
  refine C_region ?_
  refine S_val (vm) (by kernel_rfl) (fun _ _ => by kernel_rfl) ?_
  refine S_gives (mk := fun v0 => v0) (by kernel_rfl) (fun _ _ => by kernel_rfl) (fun w hO => (c_sevens w vm m (hvm.own hO))) ?_
  intro v1 ob2 hr3
  refine S_val (v1) (by kernel_rfl) (fun _ _ => by kernel_rfl) ?_
  refine S_nil ?_
  refine E_then ?_
  refine C_seq ?_
  refine C_block ?_
  refine C_loop3 (fun (O : List Int) (v : Value) (ob : List B) => (O.length ≤ 60) ∧ (Rw 72 1 v O.length (O.flatMap f7) ob)) (fun (O : List Int) (v : Value) (ob : List B) => fun g => ⟨#[g 0, .int .i64 ((n : Nat) : Int), vr, g 3, g 4, g 5, g 6, v, g 8, g 9, g 10, g 11, g 12, g 13, g 14, g 15, g 16, g 17, g 18, g 19, g 20, g 21, g 22, g 23, g 24, g 25, g 26, g 27, g 28, g 29, g 30, g 31, g 32, g 33, g 34, g 35, g 36, g 37, g 38, g 39, g 40, g 41, g 42, g 43, g 44, g 45, g 46, g 47, g 48, g 49, g 50, g 51, g 52, g 53, g 54, g 55, g 56, g 57, g 58, g 59, g 60, g 61, g 62, g 63, g 64, g 65, g 66, g 67, g 68, g 69, g 70, g 71, g 72, g 73, g 74, g 75, g 76, g 77, g 78, g 79, g 80, g 81, g 82, g 83, g 84, g 85, g 86, g 87, g 88, g 89, g 90, g 91, g 92, g 93, g 94, g 95, g 96, g 97, g 98, g 99, g 100, g 101, g 102, g 103, g 104, g 105, g 106, g 107, g 108, g 109, g 110, g 111, g 112, g 113, g 114, g 115, g 116, g 117, g 118, g 119], []⟩) (fun (O : List Int) (v : Value) (ob : List B) => [] ++ ob) (fun (O : List Int) (v : Value) (ob : List B) => M - O.length) (m.take 40) v1 ob2 (by (try dsimp only); exact ⟨(by simp; omega), (by rw [List.length_take, Nat.min_comm]; exact hr3)⟩) (by kernel_rfl) (by first | (dsimp only; done) | ((try dsimp only); kernel_rfl)) ?_
  rintro O v ob g4 ⟨hOl, hrO⟩
  obtain ⟨aoO, capO, rfl⟩ := hrO.len
  refine C_seq ?_
  refine C_seq ?_
  refine C_region ?_
  refine S_val (.slice aoO O.length capO) (by kernel_rfl) (fun _ _ => by kernel_rfl) ?_
  refine S_val (.int .i64 ((O.length : Nat) : Int)) (by kernel_rfl) (fun _ _ => by kernel_rfl) ?_
  refine S_val (.int .i64 ((n : Nat) : Int)) (by kernel_rfl) (fun _ _ => by kernel_rfl) ?_
  refine S_val (.int .i64 ((n : Nat) : Int)) (by kernel_rfl) (fun _ _ => by kernel_rfl) ?_
  refine S_val (.int .i64 ((M : Nat) : Int)) (by kernel_rfl) (fun _ _ => fv (v := .int .i64 (IntKind.i64.wrap (((n : Nat) : Int) * ((n : Nat) : Int)))) (vint (w64 (by rw [hM]; exact (Int.natCast_mul n n).symm) (by omega) (by omega))) (by kernel_rfl)) ?_
  refine S_val (.bool (decide (((O.length : Nat) : Int) < ((M : Nat) : Int)))) (by kernel_rfl) (fun _ _ => by kernel_rfl) ?_
  refine S_nil ?_
  refine E_then ?_
  refine C_if (decide (((O.length : Nat) : Int) < ((M : Nat) : Int))) (by kernel_rfl) (fun hge => ?_) (fun hge => ?_)
  · replace hge := of_decide_eq_true hge
    refine C_skip ?_
    refine E_then ?_
    refine C_block ?_
    refine C_region ?_
    refine S_val (.slice aoO O.length capO) (by kernel_rfl) (fun _ _ => by kernel_rfl) ?_
    refine S_val (.slice aoO O.length capO) (by kernel_rfl) (fun _ _ => by kernel_rfl) ?_
    refine S_val (.int .i64 ((O.length : Nat) : Int)) (by kernel_rfl) (fun _ _ => by kernel_rfl) ?_
    refine S_val (.int .i64 ((3 * O.length : Nat) : Int)) (by kernel_rfl) (fun _ _ => fv (v := .int .i64 (IntKind.i64.wrap (3 * ((O.length : Nat) : Int)))) (vint (w64 (by omega) (by omega) (by omega))) (by kernel_rfl)) ?_
    refine S_val (.agg #[.int .i64 ((3 * O.length : Nat) : Int)]) (by kernel_rfl) (fun _ _ => by kernel_rfl) ?_
    refine S_newv (fun nb0 => .slice (some ⟨nb0, 0, none⟩) 1 1) [.int .i64 ((3 * O.length : Nat) : Int)] 72 (by kernel_rfl) (fun w _ => by kernel_rfl) ?_
    intro b5 hb5 Hb5
    refine S_app (sz := 1) (n := O.length + 1) (xs := (O.flatMap f7) ++ [.int .i64 ((3 * O.length : Nat) : Int)]) (fun ob' => [⟨b5, [.int .i64 ((3 * O.length : Nat) : Int)], 72⟩] ++ ob') (by intro ob'; simp) (by kernel_rfl) (up_app (L1 := [⟨b5, [.int .i64 ((3 * O.length : Nat) : Int)], 72⟩]) (ob := ob) (L2 := []) (n := O.length) (xs := (O.flatMap f7)) 69 72 Try.t72 (.agg #[.int .i64 0]) Try.underlying69 (by kernel_rfl) (by kernel_rfl) (by kernel_rfl) rfl hrO (by simp) ⟨b5, 0, none⟩ 1 1 [.int .i64 ((3 * O.length : Nat) : Int)] (by kernel_rfl) (by kernel_rfl) (by kernel_rfl) (fun w hO j9 u9 hu => by rw [add_none, Nat.zero_add, hO.cellAt 0 (b := b5) (cs := [.int .i64 ((3 * O.length : Nat) : Int)]) (ty := 72) (by kernel_rfl)]; exact hu) (by simp [Value.oneCell', slc]) (by decide) (by simp only [Try.t72]; omega) (le_maxLen (by omega))) ?_
    intro v6 ob7 hr8
    replace hr8 : Rw 72 1 v6 (O.length + 1) ((O ++ [((3 * O.length : Nat) : Int)]).flatMap f7) ob7 := by first | exact hr8 | (rw [List.flatMap_append]; exact hr8)
    refine S_val (v6) (by kernel_rfl) (fun _ _ => by kernel_rfl) ?_
    refine S_nil ?_
    refine E_inblock ?_
    exact E_norm (fun w hw => ⟨O ++ [((3 * O.length : Nat) : Int)], v6, ob7, ⟨(by simp; omega), (by rw [List.length_append]; exact hr8)⟩, (by kernel_rfl), (by (try dsimp only); (simp only [List.length_append, List.length_cons, List.length_nil]; omega)), hw.tail⟩)
  · replace hge := of_decide_eq_false hge
    replace hge : M ≤ O.length := by omega
    obtain ⟨g9, cap10, sp11, eg9, rfl, hg91, hg92, hg93⟩ := Rw.op' rfl hrO (by omega)
    cases eg9
    refine C_exit ?_
    refine E_pass_exit ?_
    refine E_pass_exit ?_
    refine E_outblock ?_
    refine E_then ?_
    refine C_seq ?_
    refine C_region ?_
    refine S_val (vr) (by kernel_rfl) (fun _ _ => by kernel_rfl) ?_
    refine S_gives (mk := fun v0 => v0) (by kernel_rfl) (fun _ _ => by kernel_rfl) (fun w hO => (c_sevens w vr r (hvr.own hO))) ?_
    intro v12 ob13 hr14
    refine S_val (v12) (by kernel_rfl) (fun _ _ => by kernel_rfl) ?_
    refine S_nil ?_
    refine E_then ?_
    refine C_seq ?_
    refine C_block ?_
    refine C_loop3 (fun (T : List Int) (v : Value) (ob : List B) => (T.length ≤ 60) ∧ (Rw 72 1 v T.length (T.flatMap f7) ob)) (fun (T : List Int) (v : Value) (ob : List B) => fun g => ⟨#[g 0, .int .i64 ((n : Nat) : Int), g 2, g 3, g 4, g 5, g 6, .slice (some ⟨g9, 0, none⟩) O.length capO, v, g 9, g 10, g 11, g 12, g 13, g 14, g 15, g 16, g 17, g 18, g 19, g 20, g 21, g 22, g 23, g 24, g 25, g 26, g 27, g 28, g 29, g 30, g 31, g 32, g 33, g 34, g 35, g 36, g 37, g 38, g 39, g 40, g 41, g 42, g 43, g 44, g 45, g 46, g 47, g 48, g 49, g 50, g 51, g 52, g 53, g 54, g 55, g 56, g 57, g 58, g 59, g 60, g 61, g 62, g 63, g 64, g 65, g 66, g 67, g 68, g 69, g 70, g 71, g 72, g 73, g 74, g 75, g 76, g 77, g 78, g 79, g 80, g 81, g 82, g 83, g 84, g 85, g 86, g 87, g 88, g 89, g 90, g 91, g 92, g 93, g 94, g 95, g 96, g 97, g 98, g 99, g 100, g 101, g 102, g 103, g 104, g 105, g 106, g 107, g 108, g 109, g 110, g 111, g 112, g 113, g 114, g 115, g 116, g 117, g 118, g 119], []⟩) (fun (T : List Int) (v : Value) (ob : List B) => [⟨g9, ((O).flatMap f7 ++ sp11), 72⟩] ++ ob) (fun (T : List Int) (v : Value) (ob : List B) => n - T.length) (r.take 40) v12 ob13 (by (try dsimp only); exact ⟨(by simp; omega), (by rw [List.length_take, Nat.min_comm]; exact hr14)⟩) (by kernel_rfl) (by first | (dsimp only; done) | ((try dsimp only); kernel_rfl)) ?_
    rintro T v ob g15 ⟨hTl, hrT⟩
    obtain ⟨aoT, capT, rfl⟩ := hrT.len
    refine C_seq ?_
    refine C_seq ?_
    refine C_region ?_
    refine S_val (.slice aoT T.length capT) (by kernel_rfl) (fun _ _ => by kernel_rfl) ?_
    refine S_val (.int .i64 ((T.length : Nat) : Int)) (by kernel_rfl) (fun _ _ => by kernel_rfl) ?_
    refine S_val (.int .i64 ((n : Nat) : Int)) (by kernel_rfl) (fun _ _ => by kernel_rfl) ?_
    refine S_val (.bool (decide (((T.length : Nat) : Int) < ((n : Nat) : Int)))) (by kernel_rfl) (fun _ _ => by kernel_rfl) ?_
    refine S_nil ?_
    refine E_then ?_
    refine C_if (decide (((T.length : Nat) : Int) < ((n : Nat) : Int))) (by kernel_rfl) (fun hgt => ?_) (fun hgt => ?_)
    · replace hgt := of_decide_eq_true hgt
      refine C_skip ?_
      refine E_then ?_
      refine C_block ?_
      refine C_region ?_
      refine S_val (.slice aoT T.length capT) (by kernel_rfl) (fun _ _ => by kernel_rfl) ?_
      refine S_val (.agg #[.int .i64 1]) (by kernel_rfl) (fun _ _ => by kernel_rfl) ?_
      refine S_newv (fun nb0 => .slice (some ⟨nb0, 0, none⟩) 1 1) [.int .i64 1] 72 (by kernel_rfl) (fun w _ => by kernel_rfl) ?_
      intro b16 hb16 Hb16
      refine S_app (sz := 1) (n := T.length + 1) (xs := (T.flatMap f7) ++ [.int .i64 1]) (fun ob' => [⟨b16, [.int .i64 1], 72⟩, ⟨g9, ((O).flatMap f7 ++ sp11), 72⟩] ++ ob') (by intro ob'; simp) (by kernel_rfl) (up_app (L1 := [⟨b16, [.int .i64 1], 72⟩, ⟨g9, ((O).flatMap f7 ++ sp11), 72⟩]) (ob := ob) (L2 := []) (n := T.length) (xs := (T.flatMap f7)) 69 72 Try.t72 (.agg #[.int .i64 0]) Try.underlying69 (by kernel_rfl) (by kernel_rfl) (by kernel_rfl) rfl hrT (by simp) ⟨b16, 0, none⟩ 1 1 [.int .i64 1] (by kernel_rfl) (by kernel_rfl) (by kernel_rfl) (fun w hO j9 u9 hu => by rw [add_none, Nat.zero_add, hO.cellAt 0 (b := b16) (cs := [.int .i64 1]) (ty := 72) (by kernel_rfl)]; exact hu) (by simp [Value.oneCell', slc]) (by decide) (by simp only [Try.t72]; omega) (le_maxLen (by omega))) ?_
      intro v17 ob18 hr19
      replace hr19 : Rw 72 1 v17 (T.length + 1) ((T ++ [1]).flatMap f7) ob18 := by first | exact hr19 | (rw [List.flatMap_append]; exact hr19)
      refine S_val (v17) (by kernel_rfl) (fun _ _ => by kernel_rfl) ?_
      refine S_nil ?_
      refine E_inblock ?_
      exact E_norm (fun w hw => ⟨T ++ [1], v17, ob18, ⟨(by simp; omega), (by rw [List.length_append]; exact hr19)⟩, (by kernel_rfl), (by (try dsimp only); (simp only [List.length_append, List.length_cons, List.length_nil]; omega)), hw.tail⟩)
    · replace hgt := of_decide_eq_false hgt
      replace hgt : n ≤ T.length := by omega
      obtain ⟨g20, cap21, sp22, eg20, rfl, hg201, hg202, hg203⟩ := Rw.op' rfl hrT (by omega)
      cases eg20
      refine C_exit ?_
      refine E_pass_exit ?_
      refine E_pass_exit ?_
      refine E_outblock ?_
      refine E_then ?_
      refine C_seq ?_
      refine C_region ?_
      refine S_val (.slice (some ⟨g20, 0, none⟩) T.length capT) (by kernel_rfl) (fun _ _ => by kernel_rfl) ?_
      refine S_val (.int .i64 ((n : Nat) : Int)) (by kernel_rfl) (fun _ _ => by kernel_rfl) ?_
      refine S_val (.slice (some ⟨g20, 0, none⟩) n capT) (by kernel_rfl) (fun w _ => fv (v := .slice (some ⟨g20, 0 + 0 * 1, none⟩) (n - 0) (capT - 0)) (by simp) ((sl (b := g20) (off := 0) (len := T.length) (cap := capT) (sz := 1) (l := 0) (h := n) Try.underlying69 Try.sizeOf72 rfl (by kernel_rfl) (.inl ⟨rfl, rfl⟩) (.inr ⟨.i64, by kernel_rfl⟩) (by omega) (by omega) (by omega) (by omega)) w)) ?_
      refine S_val (.slice (some ⟨g20, 0, none⟩) n capT) (by kernel_rfl) (fun _ _ => by kernel_rfl) ?_
      refine S_nil ?_
      refine E_then ?_
      refine C_seq ?_
      refine C_region ?_
      refine S_val (.slice none 0 0) (by kernel_rfl) (fun _ _ => by kernel_rfl) ?_
      refine S_nil ?_
      refine E_then ?_
      refine C_seq ?_
      refine C_seq ?_
      refine C_region ?_
      refine S_val (.int .i64 0) (by kernel_rfl) (fun _ _ => by kernel_rfl) ?_
      refine S_nil ?_
      refine E_then ?_
      refine C_block ?_
      refine C_loop3 (fun (i : Nat) (v : Value) (ob : List B) => (i ≤ n) ∧ (Rw 69 1 v i ((slcs g9 capO n i).flatMap fun u => [u]) ob)) (fun (i : Nat) (v : Value) (ob : List B) => fun g => ⟨#[g 0, .int .i64 ((n : Nat) : Int), g 2, g 3, g 4, g 5, g 6, .slice (some ⟨g9, 0, none⟩) O.length capO, .slice (some ⟨g20, 0, none⟩) n capT, v, .int .i64 ((i : Nat) : Int), g 11, g 12, g 13, g 14, g 15, g 16, g 17, g 18, g 19, g 20, g 21, g 22, g 23, g 24, g 25, g 26, g 27, g 28, g 29, g 30, g 31, g 32, g 33, g 34, g 35, g 36, g 37, g 38, g 39, g 40, g 41, g 42, g 43, g 44, g 45, g 46, g 47, g 48, g 49, g 50, g 51, g 52, g 53, g 54, g 55, g 56, g 57, g 58, g 59, g 60, g 61, g 62, g 63, g 64, g 65, g 66, g 67, g 68, g 69, g 70, g 71, g 72, g 73, g 74, g 75, g 76, g 77, g 78, g 79, g 80, g 81, g 82, g 83, g 84, g 85, g 86, g 87, g 88, g 89, g 90, g 91, g 92, g 93, g 94, g 95, g 96, g 97, g 98, g 99, g 100, g 101, g 102, g 103, g 104, g 105, g 106, g 107, g 108, g 109, g 110, g 111, g 112, g 113, g 114, g 115, g 116, g 117, g 118, g 119], []⟩) (fun (i : Nat) (v : Value) (ob : List B) => [⟨g9, ((O).flatMap f7 ++ sp11), 72⟩, ⟨g20, ((T).flatMap f7 ++ sp22), 72⟩] ++ ob) (fun (i : Nat) (v : Value) (ob : List B) => n - i) 0 (.slice none 0 0) [] (by (try dsimp only); exact ⟨Nat.zero_le _, Rw.nil 69 1⟩) (by kernel_rfl) (by first | (dsimp only; done) | ((try dsimp only); simp)) ?_
      rintro i v ob g23 ⟨hi, hrr⟩
      refine C_seq ?_
      refine C_seq ?_
      refine C_region ?_
      refine S_val (.int .i64 ((i : Nat) : Int)) (by kernel_rfl) (fun _ _ => by kernel_rfl) ?_
      refine S_val (.int .i64 ((n : Nat) : Int)) (by kernel_rfl) (fun _ _ => by kernel_rfl) ?_
      refine S_val (.bool (decide (((i : Nat) : Int) < ((n : Nat) : Int)))) (by kernel_rfl) (fun _ _ => by kernel_rfl) ?_
      refine S_nil ?_
      refine E_then ?_
      refine C_if (decide (((i : Nat) : Int) < ((n : Nat) : Int))) (by kernel_rfl) (fun hin => ?_) (fun hin => ?_)
      · replace hin := of_decide_eq_true hin
        replace hin : i < n := by omega
        have hq := qn hin
        refine C_skip ?_
        refine E_then ?_
        refine C_seq ?_
        refine C_block ?_
        refine C_region ?_
        refine S_val (v) (by kernel_rfl) (fun _ _ => by kernel_rfl) ?_
        refine S_val (.slice (some ⟨g9, 0, none⟩) O.length capO) (by kernel_rfl) (fun _ _ => by kernel_rfl) ?_
        refine S_val (.int .i64 ((i : Nat) : Int)) (by kernel_rfl) (fun _ _ => by kernel_rfl) ?_
        refine S_val (.int .i64 ((n : Nat) : Int)) (by kernel_rfl) (fun _ _ => by kernel_rfl) ?_
        refine S_val (.int .i64 ((i * n : Nat) : Int)) (by kernel_rfl) (fun _ _ => fv (v := .int .i64 (IntKind.i64.wrap (((i : Nat) : Int) * ((n : Nat) : Int)))) (vint (w64 (Int.natCast_mul i n).symm (by omega) (by omega))) (by kernel_rfl)) ?_
        refine S_val (.int .i64 ((i : Nat) : Int)) (by kernel_rfl) (fun _ _ => by kernel_rfl) ?_
        refine S_val (.int .i64 ((n : Nat) : Int)) (by kernel_rfl) (fun _ _ => by kernel_rfl) ?_
        refine S_val (.int .i64 ((i * n : Nat) : Int)) (by kernel_rfl) (fun _ _ => fv (v := .int .i64 (IntKind.i64.wrap (((i : Nat) : Int) * ((n : Nat) : Int)))) (vint (w64 (Int.natCast_mul i n).symm (by omega) (by omega))) (by kernel_rfl)) ?_
        refine S_val (.int .i64 ((n : Nat) : Int)) (by kernel_rfl) (fun _ _ => by kernel_rfl) ?_
        refine S_val (.int .i64 (((i * n) + n : Nat) : Int)) (by kernel_rfl) (fun _ _ => fv (v := .int .i64 (IntKind.i64.wrap (((i * n : Nat) : Int) + ((n : Nat) : Int)))) (vint (w64 (by omega) (by omega) (by omega))) (by kernel_rfl)) ?_
        refine S_val (slc g9 capO n i) (by kernel_rfl) (fun w _ => fv (v := .slice (some ⟨g9, 0 + (i * n) * 1, none⟩) (((i * n) + n) - (i * n)) (capO - (i * n))) (by simp only [slc]; rw [Nat.add_sub_cancel_left]) ((sl (b := g9) (off := 0) (len := O.length) (cap := capO) (sz := 1) (l := i * n) (h := (i * n) + n) Try.underlying69 Try.sizeOf72 rfl (by kernel_rfl) (.inr ⟨.i64, by kernel_rfl⟩) (.inr ⟨.i64, by kernel_rfl⟩) (by omega) (by omega) (by omega) (by omega)) w)) ?_
        refine S_newv (fun nb0 => .slice (some ⟨nb0, 0, none⟩) 1 1) [slc g9 capO n i] 69 (by kernel_rfl) (fun w _ => by kernel_rfl) ?_
        intro b24 hb24 Hb24
        refine S_app (sz := 1) (n := i + 1) (xs := ((slcs g9 capO n i).flatMap (fun u => [u])) ++ [slc g9 capO n i]) (fun ob' => [⟨b24, [slc g9 capO n i], 69⟩, ⟨g9, ((O).flatMap f7 ++ sp11), 72⟩, ⟨g20, ((T).flatMap f7 ++ sp22), 72⟩] ++ ob') (by intro ob'; simp) (by kernel_rfl) (up_app (L1 := [⟨b24, [slc g9 capO n i], 69⟩, ⟨g9, ((O).flatMap f7 ++ sp11), 72⟩, ⟨g20, ((T).flatMap f7 ++ sp22), 72⟩]) (ob := ob) (L2 := []) (n := i) (xs := ((slcs g9 capO n i).flatMap (fun u => [u]))) 73 69 Try.t69 (.slice none 0 0) Try.underlying73 (by kernel_rfl) (by kernel_rfl) (by kernel_rfl) rfl hrr (by simp) ⟨b24, 0, none⟩ 1 1 [slc g9 capO n i] (by kernel_rfl) (by kernel_rfl) (by kernel_rfl) (fun w hO j9 u9 hu => by rw [add_none, Nat.zero_add, hO.cellAt 0 (b := b24) (cs := [slc g9 capO n i]) (ty := 69) (by kernel_rfl)]; exact hu) (by simp [Value.oneCell', slc]) (by decide) (by simp only [Try.t69]; omega) (le_maxLen (by omega))) ?_
        intro v25 ob26 hr27
        replace hr27 : Rw 69 1 v25 (i + 1) (((slcs g9 capO n i) ++ [slc g9 capO n i]).flatMap (fun u => [u])) ob26 := by first | exact hr27 | (rw [List.flatMap_append]; exact hr27)
        refine S_val (v25) (by kernel_rfl) (fun _ _ => by kernel_rfl) ?_
        refine S_nil ?_
        refine E_inblock ?_
        refine E_then ?_
        refine C_region ?_
        refine S_val (.int .i64 ((i : Nat) : Int)) (by kernel_rfl) (fun _ _ => by kernel_rfl) ?_
        refine S_val (.int .i64 ((i + 1 : Nat) : Int)) (by kernel_rfl) (fun _ _ => fv (v := .int .i64 (IntKind.i64.wrap (((i : Nat) : Int) + 1))) (vint (w64 (by omega) (by omega) (by omega))) (by kernel_rfl)) ?_
        refine S_val (.int .i64 ((i + 1 : Nat) : Int)) (by kernel_rfl) (fun _ _ => by kernel_rfl) ?_
        refine S_nil ?_
        exact E_norm (fun w hw => ⟨i + 1, v25, ob26, ⟨by omega, by rw [slcs_succ]; exact hr27⟩, (by kernel_rfl), (by (try dsimp only); omega), hw.tail⟩)
      · replace hin := of_decide_eq_false hin
        obtain rfl : n = i := by omega
        obtain ⟨g28, cap29, sp30, eg28, rfl, hg281, hg282, hg283⟩ := Rw.op' (slcs_length _ _ _ _) hrr (by omega)
        cases eg28
        refine C_exit ?_
        refine E_pass_exit ?_
        refine E_pass_exit ?_
        refine E_outblock ?_
        refine E_then ?_
        refine C_seq ?_
        refine C_region ?_
        refine S_val (.slice (some ⟨g28, 0, none⟩) n cap29) (by kernel_rfl) (fun _ _ => by kernel_rfl) ?_
        refine S_val (.slice (some ⟨g20, 0, none⟩) n capT) (by kernel_rfl) (fun _ _ => by kernel_rfl) ?_
        refine S_call2 (fun x : SolOk (rowsOf O n) (T.take n) n => .tuple #[x.1.2.1, .int .i64 0]) (fun x => x.1.2.2) (fun _ : SolNo (rowsOf O n) (T.take n) n => .tuple #[.slice none 0 0, .int .i64 61]) (fun _ => []) (by kernel_rfl) (fun _ _ => by kernel_rfl) (fun w hO => c_solve' w (.slice (some ⟨g28, 0, none⟩) n cap29) (.slice (some ⟨g20, 0, none⟩) n capT) (rowsOf O n) (T.take n) n (by omega) (rowsOf_length _ _) (rowsOf_rows (by omega)) (by simp; omega) (rows_rdm hO 0 rfl (by omega) hrr (sub1 2 rfl)) (take_rd ((hO.rdB 1 f7_len T rfl).o.rd _) (by omega))) ?_ ?_
        · rintro ⟨⟨R, v, ob⟩, hG, hw⟩
          dsimp only at hG hw
          obtain ⟨ao, cap, rfl⟩ := hw.len
          refine S_val (.tuple #[.slice ao n cap, .int .i64 0]) (by kernel_rfl) (fun _ _ => by kernel_rfl) ?_
          refine S_val (.slice ao n cap) (by kernel_rfl) (fun _ _ => by kernel_rfl) ?_
          refine S_val (.int .i64 0) (by kernel_rfl) (fun _ _ => by kernel_rfl) ?_
          refine S_val (.slice ao n cap) (by kernel_rfl) (fun _ _ => by kernel_rfl) ?_
          refine S_val (.int .i64 0) (by kernel_rfl) (fun _ _ => by kernel_rfl) ?_
          refine S_nil ?_
          refine E_then ?_
          refine C_seq ?_
          refine C_seq ?_
          refine C_region ?_
          refine S_val (.int .i64 0) (by kernel_rfl) (fun _ _ => by kernel_rfl) ?_
          refine S_val (.bool true) (by kernel_rfl) (fun _ _ => by kernel_rfl) ?_
          refine S_nil ?_
          refine E_then ?_
          refine C_true (by kernel_rfl) ?_
          refine C_seq ?_
          refine C_seq ?_
          refine C_region ?_
          refine S_val (.slice ao n cap) (by kernel_rfl) (fun _ _ => by kernel_rfl) ?_
          refine S_val (.int .i64 ((n : Nat) : Int)) (by kernel_rfl) (fun _ _ => by kernel_rfl) ?_
          refine S_val (.int .i64 ((n : Nat) : Int)) (by kernel_rfl) (fun _ _ => by kernel_rfl) ?_
          refine S_val (.bool false) (by kernel_rfl) (fun _ _ => fv (v := .bool (((n : Nat) : Int) != ((n : Nat) : Int))) (vbool (bne_eq_false_iff_eq.2 (by omega))) (by kernel_rfl)) ?_
          refine S_nil ?_
          refine E_then ?_
          refine C_false (by kernel_rfl) ?_
          refine C_skip ?_
          refine E_then ?_
          refine C_seq ?_
          refine C_seq ?_
          refine C_region ?_
          refine S_val (.int .i64 0) (by kernel_rfl) (fun _ _ => by kernel_rfl) ?_
          refine S_nil ?_
          refine E_then ?_
          refine C_block ?_
          refine C_loop1 (fun (i : Nat) => (i ≤ n)) (fun (i : Nat) => fun g => ⟨#[g 0, .int .i64 ((n : Nat) : Int), g 2, g 3, g 4, g 5, g 6, g 7, .slice (some ⟨g20, 0, none⟩) n capT, .slice (some ⟨g28, 0, none⟩) n cap29, g 10, .slice ao n cap, g 12, .int .i64 ((i : Nat) : Int), g 14, g 15, g 16, g 17, g 18, g 19, g 20, g 21, g 22, g 23, g 24, g 25, g 26, g 27, g 28, g 29, g 30, g 31, g 32, g 33, g 34, g 35, g 36, g 37, g 38, g 39, g 40, g 41, g 42, g 43, g 44, g 45, g 46, g 47, g 48, g 49, g 50, g 51, g 52, g 53, g 54, g 55, g 56, g 57, g 58, g 59, g 60, g 61, g 62, g 63, g 64, g 65, g 66, g 67, g 68, g 69, g 70, g 71, g 72, g 73, g 74, g 75, g 76, g 77, g 78, g 79, g 80, g 81, g 82, g 83, g 84, g 85, g 86, g 87, g 88, g 89, g 90, g 91, g 92, g 93, g 94, g 95, g 96, g 97, g 98, g 99, g 100, g 101, g 102, g 103, g 104, g 105, g 106, g 107, g 108, g 109, g 110, g 111, g 112, g 113, g 114, g 115, g 116, g 117, g 118, g 119], []⟩) (fun (i : Nat) => [⟨g9, ((O).flatMap f7 ++ sp11), 72⟩, ⟨g20, ((T).flatMap f7 ++ sp22), 72⟩, ⟨g28, ((slcs g9 capO n n).flatMap (fun u => [u]) ++ sp30), 69⟩] ++ ob) (fun (i : Nat) => n - i) 0 (by (try dsimp only); exact Nat.zero_le _) (by kernel_rfl) (by first | (dsimp only; done) | ((try dsimp only); kernel_rfl)) ?_
          rintro i g31 hi
          refine C_seq ?_
          refine C_seq ?_
          refine C_region ?_
          refine S_val (.int .i64 ((i : Nat) : Int)) (by kernel_rfl) (fun _ _ => by kernel_rfl) ?_
          refine S_val (.int .i64 ((n : Nat) : Int)) (by kernel_rfl) (fun _ _ => by kernel_rfl) ?_
          refine S_val (.bool (decide (((i : Nat) : Int) < ((n : Nat) : Int)))) (by kernel_rfl) (fun _ _ => by kernel_rfl) ?_
          refine S_nil ?_
          refine E_then ?_
          refine C_if (decide (((i : Nat) : Int) < ((n : Nat) : Int))) (by kernel_rfl) (fun hin => ?_) (fun hin => ?_)
          · replace hin := of_decide_eq_true hin
            replace hin : i < n := by omega
            refine C_skip ?_
            refine E_then ?_
            refine C_seq ?_
            refine C_block ?_
            refine C_seq ?_
            refine C_region ?_
            refine S_val (.slice (some ⟨g28, 0, none⟩) n cap29) (by kernel_rfl) (fun _ _ => by kernel_rfl) ?_
            refine S_val (.int .i64 ((i : Nat) : Int)) (by kernel_rfl) (fun _ _ => by kernel_rfl) ?_
            refine S_val (.pointer (some ⟨g28, 0 + i * 1, none⟩)) (by kernel_rfl) (fun w _ => (ixS (k := .i64) g28 0 n cap29 1 i rfl (by kernel_rfl) (by kernel_rfl) Try.underlying73 Try.sizeOf69 (by omega)) w) ?_
            refine S_val (slc g9 capO n i) (by kernel_rfl) (fun w hO => fv (v := (slcs g9 capO n n).getD i undef) (slcs_get hin _) (ldFs1 (f := fun u => [u]) (v := (slcs g9 capO n n).getD i undef) (fun _ => rfl) (slcs g9 capO n n) sp30 undef i (0 + i * 1) 2 g28 69 rfl (by kernel_rfl) (by omega) (by rw [slcs_length]; exact hin) rfl Try.isAgg69 (by kernel_rfl) w hO)) ?_
            refine S_val (.slice ao n cap) (by kernel_rfl) (fun _ _ => by kernel_rfl) ?_
            refine S_call (by kernel_rfl) (fun _ _ => by kernel_rfl) (fun w hO => ((c_inner w (slc g9 capO n i) (.slice ao n cap) ((rowsOf O n).getD i []) (lastc n R n) (row_rd hO 0 rfl hin (by omega)) (Rw.rd' f7_len (lastc_length _ _ _) hw hO ((List.sublist_append_right _ _))) (by rw [lastc_length, rowsOf_rows (by omega) i hin]) (by rw [rowsOf_rows (by omega) i hin]; omega))).mono fun _ _ ⟨he, hb⟩ => ⟨.tuple #[.agg #[.int .i64 (in7 ((rowsOf O n).getD i []) (lastc n R n) ((rowsOf O n).getD i []).length)], .int .i64 0], _, he, hO.call hb, ?_⟩)
            refine S_val (.tuple #[.agg #[.int .i64 (in7 ((rowsOf O n).getD i []) (lastc n R n) ((rowsOf O n).getD i []).length)], .int .i64 0]) (by kernel_rfl) (fun _ _ => by kernel_rfl) ?_
            refine S_val (.agg #[.int .i64 (in7 ((rowsOf O n).getD i []) (lastc n R n) ((rowsOf O n).getD i []).length)]) (by kernel_rfl) (fun _ _ => by kernel_rfl) ?_
            refine S_val (.int .i64 0) (by kernel_rfl) (fun _ _ => by kernel_rfl) ?_
            refine S_newv (fun nb0 => .pointer (some ⟨nb0, 0, none⟩)) [.int .i64 0] 72 (by kernel_rfl) (fun w _ => by kernel_rfl) ?_
            intro b32 hb32 Hb32
            refine S_do (by kernel_rfl) (stN (L' := [⟨b32, [.int .i64 (in7 ((rowsOf O n).getD i []) (lastc n R n) ((rowsOf O n).getD i []).length)], 72⟩, ⟨g9, ((O).flatMap f7 ++ sp11), 72⟩, ⟨g20, ((T).flatMap f7 ++ sp22), 72⟩, ⟨g28, ((slcs g9 capO n n).flatMap (fun u => [u]) ++ sp30), 69⟩] ++ ob) [.int .i64 (in7 ((rowsOf O n).getD i []) (lastc n R n) ((rowsOf O n).getD i []).length)] 0 b32 0 [.int .i64 0] 72 rfl (by kernel_rfl) (by kernel_rfl) Try.sizeOf72 (by simp [Value.oneCell']) (by kernel_rfl) (by simp) (by kernel_rfl)) ?_
            refine S_val (.int .i64 0) (by kernel_rfl) (fun _ _ => by kernel_rfl) ?_
            refine S_nil ?_
            refine E_then ?_
            refine C_seq ?_
            refine C_drawn [.pure, .pure, .pure, .held, .held, .pure, .pure, .pure, .held, .held, .pure, .pure] (by kernel_rfl) (by kernel_rfl) ?_
            refine D_val (.int .i64 0) (by kernel_rfl) (fun _ => by kernel_rfl) ?_
            refine D_val (.bool false) (by kernel_rfl) (fun _ => by kernel_rfl) ?_
            refine D_val (.bool false) (by kernel_rfl) (fun _ => by kernel_rfl) ?_
            refine D_held (.agg #[.int .i64 (in7 ((rowsOf O n).getD i []) (lastc n R n) ((rowsOf O n).getD i []).length)]) (by kernel_rfl) (ldN [.int .i64 (in7 ((rowsOf O n).getD i []) (lastc n R n) ((rowsOf O n).getD i []).length)] 0 b32 0 [.int .i64 (in7 ((rowsOf O n).getD i []) (lastc n R n) ((rowsOf O n).getD i []).length)] 72 rfl (by kernel_rfl) Try.isAgg72 Try.sizeOf72 (by kernel_rfl) (by kernel_rfl)) ?_
            refine D_pure (v := .int .i64 ((in7 ((rowsOf O n).getD i []) (lastc n R n) ((rowsOf O n).getD i []).length) % 7)) (by kernel_rfl) (c_r (in7 ((rowsOf O n).getD i []) (lastc n R n) ((rowsOf O n).getD i []).length)) (fun _ => by kernel_rfl) ?_
            refine D_val (.slice (some ⟨g20, 0, none⟩) n capT) (by kernel_rfl) (fun _ => by kernel_rfl) ?_
            refine D_val (.int .i64 ((i : Nat) : Int)) (by kernel_rfl) (fun _ => by kernel_rfl) ?_
            refine D_val (.pointer (some ⟨g20, 0 + i * 1, none⟩)) (by kernel_rfl) (ixS (k := .i64) g20 0 n capT 1 i rfl (by kernel_rfl) (by kernel_rfl) Try.underlying69 Try.sizeOf72 (by omega)) ?_
            refine D_held (.agg #[.int .i64 (T.getD i 0)]) (by kernel_rfl) (ldFs f7_len T sp22 0 i (0 + i * 1) 2 g20 72 rfl (by kernel_rfl) (by omega) (by omega) Try.isAgg72 Try.sizeOf72 (by kernel_rfl)) ?_
            refine D_pure (v := .int .i64 ((T.getD i 0) % 7)) (by kernel_rfl) (c_r (T.getD i 0)) (fun _ => by kernel_rfl) ?_
            refine D_val (.bool (((in7 ((rowsOf O n).getD i []) (lastc n R n) ((rowsOf O n).getD i []).length) % 7) != ((T.getD i 0) % 7))) (by kernel_rfl) (fun _ => by kernel_rfl) ?_
            refine D_val (.bool (((in7 ((rowsOf O n).getD i []) (lastc n R n) ((rowsOf O n).getD i []).length) % 7) != ((T.getD i 0) % 7))) (by kernel_rfl) (fun _ => by kernel_rfl) ?_
            refine D_nil ?_
            refine E_then ?_
            refine C_falseb (t := ((in7 ((rowsOf O n).getD i []) (lastc n R n) ((rowsOf O n).getD i []).length) % 7) != ((T.getD i 0) % 7)) (by kernel_rfl) (bne_eq_false_iff_eq.2 ((gj_sol (rowsOf_rows (by omega)) hG i hin).trans (by rw [List.getD_eq_getElem?_getD, List.getElem?_take, if_pos hin, ← List.getD_eq_getElem?_getD]))) ?_
            refine C_skip ?_
            refine E_inblock ?_
            refine E_then ?_
            refine C_region ?_
            refine S_val (.int .i64 ((i : Nat) : Int)) (by kernel_rfl) (fun _ _ => by kernel_rfl) ?_
            refine S_val (.int .i64 ((i + 1 : Nat) : Int)) (by kernel_rfl) (fun _ _ => fv (v := .int .i64 (IntKind.i64.wrap (((i : Nat) : Int) + 1))) (vint (w64 (by omega) (by omega) (by omega))) (by kernel_rfl)) ?_
            refine S_val (.int .i64 ((i + 1 : Nat) : Int)) (by kernel_rfl) (fun _ _ => by kernel_rfl) ?_
            refine S_nil ?_
            exact E_norm (fun w hw => ⟨i + 1, by omega, (by kernel_rfl), (by (try dsimp only); omega), hw.tail⟩)
          · replace hin := of_decide_eq_false hin
            refine C_exit ?_
            refine E_pass_exit ?_
            refine E_pass_exit ?_
            refine E_outblock ?_
            refine E_then ?_
            refine C_seq ?_
            refine C_region ?_
            refine S_val (.slice (some ⟨g28, 0, none⟩) n cap29) (by kernel_rfl) (fun _ _ => by kernel_rfl) ?_
            refine S_call (by kernel_rfl) (fun _ _ => by kernel_rfl) (fun w hO => ((c_hangs w _ (rowsOf O n) n (by omega) (rowsOf_length _ _) (rowsOf_rows (by omega)) (rows_rdm hO 0 rfl (by omega) hrr (sub1 2 rfl)))).mono fun _ _ ⟨he, hb⟩ => ⟨.bool (hgb (rowsOf O n) n), _, he, hO.call hb, ?_⟩)
            refine S_val (.bool true) (by kernel_rfl) (fun _ _ => fv (v := .bool (!(hgb (rowsOf O n) n))) (vbool (by rw [hgb_f (gj_nohang (rowsOf_rows (by omega)) hG)]; rfl)) (by kernel_rfl)) ?_
            refine S_val (.bool true) (by kernel_rfl) (fun _ _ => by kernel_rfl) ?_
            refine S_nil ?_
            refine E_then ?_
            refine C_ret ?_
            refine E_pass_ret ?_
            exact pure_ret rfl (res1 Try.results7 (by kernel_rfl))
        · rintro ⟨⟨k, R⟩, hG, hk, hz⟩
          dsimp only at hG hk hz
          refine S_val (.tuple #[.slice none 0 0, .int .i64 61]) (by kernel_rfl) (fun _ _ => by kernel_rfl) ?_
          refine S_val (.slice none 0 0) (by kernel_rfl) (fun _ _ => by kernel_rfl) ?_
          refine S_val (.int .i64 61) (by kernel_rfl) (fun _ _ => by kernel_rfl) ?_
          refine S_val (.slice none 0 0) (by kernel_rfl) (fun _ _ => by kernel_rfl) ?_
          refine S_val (.int .i64 61) (by kernel_rfl) (fun _ _ => by kernel_rfl) ?_
          refine S_nil ?_
          refine E_then ?_
          refine C_seq ?_
          refine C_seq ?_
          refine C_region ?_
          refine S_val (.int .i64 61) (by kernel_rfl) (fun _ _ => by kernel_rfl) ?_
          refine S_val (.bool false) (by kernel_rfl) (fun _ _ => by kernel_rfl) ?_
          refine S_nil ?_
          refine E_then ?_
          refine C_false (by kernel_rfl) ?_
          refine C_skip ?_
          refine E_then ?_
          refine C_seq ?_
          refine C_region ?_
          refine S_val (.int .i64 61) (by kernel_rfl) (fun _ _ => by kernel_rfl) ?_
          refine S_val (.bool true) (by kernel_rfl) (fun _ _ => by kernel_rfl) ?_
          refine S_val (.bool true) (by kernel_rfl) (fun _ _ => by kernel_rfl) ?_
          refine S_val (.slice none 0 0) (by kernel_rfl) (fun _ _ => by kernel_rfl) ?_
          refine S_val (.int .i64 0) (by kernel_rfl) (fun _ _ => by kernel_rfl) ?_
          refine S_val (.bool true) (by kernel_rfl) (fun _ _ => by kernel_rfl) ?_
          refine S_val (.bool true) (by kernel_rfl) (fun _ _ => by kernel_rfl) ?_
          refine S_val (.bool true) (by kernel_rfl) (fun _ _ => by kernel_rfl) ?_
          refine S_val (.slice (some ⟨g28, 0, none⟩) n cap29) (by kernel_rfl) (fun _ _ => by kernel_rfl) ?_
          refine S_call (by kernel_rfl) (fun _ _ => by kernel_rfl) (fun w hO => ((c_hangs w _ (rowsOf O n) n (by omega) (rowsOf_length _ _) (rowsOf_rows (by omega)) (rows_rdm hO 0 rfl (by omega) hrr (sub1 2 rfl)))).mono fun _ _ ⟨he, hb⟩ => ⟨.bool (hgb (rowsOf O n) n), _, he, hO.call hb, ?_⟩)
          refine S_val (.bool (hgb (rowsOf O n) n)) (by kernel_rfl) (fun _ _ => by kernel_rfl) ?_
          refine S_val (.bool true) (by kernel_rfl) (fun _ _ => fv (v := .bool (hgb (rowsOf O n) n)) (vbool (hgb_t (gj_hang (by omega) (rowsOf_rows (by omega)) hG hk hz))) (by kernel_rfl)) ?_
          refine S_nil ?_
          refine E_then ?_
          refine C_ret ?_
          exact pure_ret rfl (res1 Try.results7 (by kernel_rfl))
end Go.Vk
