/- What functions of the program do: walks, printed by a program of my own. -/
import Derived.Test.YthmlkndmpkcjdaaSevenG
set_option linter.unusedVariables false
set_option linter.unusedSimpArgs false
namespace Go.Vk
open Go Go.RowKit Go.Proofs
theorem c_invall (w0 : World) (v : Value) (xs : List Int) (hv : Rd w0 v 1 f7 xs) (h0 : 0 < xs.length) (hl : xs.length ≤ 1000000) : Gives Try.prog 87 #[v] w0 72 1 xs.length ((io2 xs xs.length).flatMap f7) (fun v => v) := by
  obtain ⟨ao, cap, rfl, hx⟩ := hv.o
  unfold Gives
  refine calls_start Try.func87 rfl ?_
  refine C_seq ?_
  refine C_region ?_
  refine S_val (.slice none 0 0) (by kernel_rfl) (fun _ _ => by kernel_rfl) ?_
  refine S_nil ?_
  refine E_then ?_
  refine C_seq ?_
  refine C_seq ?_
  refine C_region ?_
  refine S_val (.slice ao xs.length cap) (by kernel_rfl) (fun _ _ => by kernel_rfl) ?_
  refine S_val (.int .i64 ((xs.length : Nat) : Int)) (by kernel_rfl) (fun _ _ => by kernel_rfl) ?_
  refine S_val (.bool false) (by kernel_rfl) (fun _ _ => fv (v := .bool (((xs.length : Nat) : Int) == 0)) (vbool (beq_eq_false_iff_ne.2 (by omega))) (by kernel_rfl)) ?_
  refine S_nil ?_
  refine E_then ?_
  refine C_false (by kernel_rfl) ?_
  refine C_skip ?_
  refine E_then ?_
  refine C_seq ?_
  refine C_region ?_
  refine S_val (.slice ao xs.length cap) (by kernel_rfl) (fun _ _ => by kernel_rfl) ?_
  refine S_val (.int .i64 ((xs.length : Nat) : Int)) (by kernel_rfl) (fun _ _ => by kernel_rfl) ?_
  refine S_newv (fun nb0 => .slice (some ⟨nb0, 0, none⟩) xs.length xs.length) ((List.replicate xs.length 0).flatMap f7) 72 (by kernel_rfl) (mk (kl := .i64) (kc := .i64) (z := .agg #[.int .i64 0]) (i := Try.t72) xs.length xs.length Try.underlying69 (by kernel_rfl) (by kernel_rfl) rfl (by kernel_rfl) (by kernel_rfl) (by omega) (by simp only [Try.t72]; omega) (by omega) ((List.replicate xs.length 0).flatMap f7) (madeF (f := f7) (d := 0) xs.length rfl)) ?_
  intro b1 hb1 Hb1
  refine S_val (.slice (some ⟨b1, 0, none⟩) xs.length xs.length) (by kernel_rfl) (fun _ _ => by kernel_rfl) ?_
  refine S_nil ?_
  refine E_then ?_
  refine C_seq ?_
  refine C_region ?_
  obtain ⟨bi2, oi3, rfl, hi4⟩ := hx.op (by omega)
  refine S_val (.slice (some ⟨bi2, oi3, none⟩) xs.length cap) (by kernel_rfl) (fun _ _ => by kernel_rfl) ?_
  refine S_val (.pointer (some ⟨bi2, oi3 + 0 * 1, none⟩)) (by kernel_rfl) (fun w _ => (ixS (k := .i64) bi2 oi3 xs.length cap 1 0 rfl (by kernel_rfl) (by kernel_rfl) Try.underlying69 Try.sizeOf72 (by omega)) w) ?_
  refine S_val (.agg #[.int .i64 (xs.getD 0 0)]) (by kernel_rfl) (ldR f7_len 0 0 bi2 oi3 (oi3 + 0 * 1) hi4 rfl (by kernel_rfl) rfl (by omega) Try.isAgg72 Try.sizeOf72) ?_
  refine S_val (.iface 72 (.agg #[.int .i64 (xs.getD 0 0)])) (by kernel_rfl) (fun _ _ => by kernel_rfl) ?_
  refine S_pure (v := .agg #[.int .i64 1]) (by kernel_rfl) (c_one (xs.getD 0 0)) (fun _ => by kernel_rfl) ?_
  refine S_newv (fun nb0 => .pointer (some ⟨nb0, 0, none⟩)) [.int .i64 0] 72 (by kernel_rfl) (fun w _ => by kernel_rfl) ?_
  intro b5 hb5 Hb5
  refine S_do (by kernel_rfl) (stN (L' := [⟨b5, [.int .i64 1], 72⟩, ⟨b1, ((List.replicate xs.length 0).flatMap f7), 72⟩]) [.int .i64 1] 0 b5 0 [.int .i64 0] 72 rfl (by kernel_rfl) (by kernel_rfl) Try.sizeOf72 (by simp [Value.oneCell']) (by kernel_rfl) (by simp) (by kernel_rfl)) ?_
  refine S_nil ?_
  refine E_then ?_
  refine C_seq ?_
  refine C_seq ?_
  refine C_region ?_
  refine S_val (.slice (some ⟨bi2, oi3, none⟩) xs.length cap) (by kernel_rfl) (fun _ _ => by kernel_rfl) ?_
  refine S_val (.int .i64 ((xs.length : Nat) : Int)) (by kernel_rfl) (fun _ _ => by kernel_rfl) ?_
  refine S_val (.int .i64 0) (by kernel_rfl) (fun _ _ => by kernel_rfl) ?_
  refine S_nil ?_
  refine E_then ?_
  refine C_block ?_
  refine C_loop1 (fun (k : Nat) => (k ≤ xs.length)) (fun (k : Nat) => fun g => ⟨#[.slice (some ⟨bi2, oi3, none⟩) xs.length cap, g 1, g 2, .slice (some ⟨b1, 0, none⟩) xs.length xs.length, .pointer (some ⟨b5, 0, none⟩), g 5, g 6, g 7, g 8, g 9, g 10, g 11, g 12, g 13, g 14, g 15, g 16, g 17, g 18, g 19, g 20, .slice (some ⟨bi2, oi3, none⟩) xs.length cap, .int .i64 ((xs.length : Nat) : Int), .int .i64 ((k : Nat) : Int), g 24, g 25, g 26, g 27, g 28, g 29, g 30, g 31, g 32, g 33, g 34, g 35, g 36, g 37, g 38, g 39, g 40, g 41, g 42, g 43, g 44, g 45, g 46, g 47, g 48, g 49, g 50, g 51, g 52, g 53, g 54, g 55, g 56, g 57, g 58, g 59, g 60, g 61, g 62, g 63, g 64, g 65, g 66, g 67, g 68, g 69, g 70, g 71, g 72, g 73, g 74, g 75, g 76, g 77, g 78], []⟩) (fun (k : Nat) => [⟨b5, [.int .i64 (ipre xs k)], 72⟩, ⟨b1, ((io1 xs k).flatMap f7), 72⟩]) (fun (k : Nat) => xs.length - k) 0 (by (try dsimp only); exact Nat.zero_le _) (by kernel_rfl) (by first | (dsimp only; done) | ((try dsimp only); kernel_rfl)) ?_
  rintro k g6 hk
  refine C_seq ?_
  refine C_region ?_
  refine S_val (.bool (decide (((k : Nat) : Int) < ((xs.length : Nat) : Int)))) (by kernel_rfl) (fun _ _ => by kernel_rfl) ?_
  refine S_nil ?_
  refine E_then ?_
  refine C_seq ?_
  refine C_if (decide (((k : Nat) : Int) < ((xs.length : Nat) : Int))) (by kernel_rfl) (fun hc => ?_) (fun hc => ?_)
  · replace hc := of_decide_eq_true hc
    refine C_skip ?_
    refine E_then ?_
    refine C_seq ?_
    refine C_block ?_
    refine C_seq ?_
    refine C_region ?_
    refine S_val (.int .i64 ((k : Nat) : Int)) (by kernel_rfl) (fun _ _ => by kernel_rfl) ?_
    refine S_val (.pointer (some ⟨bi2, oi3 + k * 1, none⟩)) (by kernel_rfl) (fun w _ => (ixS (k := .i64) bi2 oi3 xs.length cap 1 k rfl (by kernel_rfl) (by kernel_rfl) Try.underlying69 Try.sizeOf72 (by omega)) w) ?_
    refine S_val (.agg #[.int .i64 (xs.getD k 0)]) (by kernel_rfl) (ldR f7_len 0 k bi2 oi3 (oi3 + k * 1) hi4 rfl (by kernel_rfl) rfl (by omega) Try.isAgg72 Try.sizeOf72) ?_
    refine S_newv (fun nb0 => .pointer (some ⟨nb0, 0, none⟩)) [.int .i64 0] 72 (by kernel_rfl) (fun w _ => by kernel_rfl) ?_
    intro b7 hb7 Hb7
    refine S_val (.int .i64 ((k : Nat) : Int)) (by kernel_rfl) (fun _ _ => by kernel_rfl) ?_
    refine S_do (by kernel_rfl) (stN (L' := [⟨b7, [.int .i64 (xs.getD k 0)], 72⟩, ⟨b5, [.int .i64 (ipre xs k)], 72⟩, ⟨b1, ((io1 xs k).flatMap f7), 72⟩]) [.int .i64 (xs.getD k 0)] 0 b7 0 [.int .i64 0] 72 rfl (by kernel_rfl) (by kernel_rfl) Try.sizeOf72 (by simp [Value.oneCell']) (by kernel_rfl) (by simp) (by kernel_rfl)) ?_
    refine S_nil ?_
    refine E_then ?_
    refine C_seq ?_
    refine C_region ?_
    refine S_val (.slice (some ⟨b1, 0, none⟩) xs.length xs.length) (by kernel_rfl) (fun _ _ => by kernel_rfl) ?_
    refine S_val (.int .i64 ((k : Nat) : Int)) (by kernel_rfl) (fun _ _ => by kernel_rfl) ?_
    refine S_val (.agg #[.int .i64 (ipre xs k)]) (by kernel_rfl) (ldN [.int .i64 (ipre xs k)] 1 b5 0 [.int .i64 (ipre xs k)] 72 rfl (by kernel_rfl) Try.isAgg72 Try.sizeOf72 (by kernel_rfl) (by kernel_rfl)) ?_
    refine S_val (.pointer (some ⟨b1, 0 + k * 1, none⟩)) (by kernel_rfl) (fun w _ => (ixS (k := .i64) b1 0 xs.length xs.length 1 k rfl (by kernel_rfl) (by kernel_rfl) Try.underlying69 Try.sizeOf72 (by omega)) w) ?_
    refine S_do (by kernel_rfl) (stF (L' := [⟨b7, [.int .i64 (xs.getD k 0)], 72⟩, ⟨b5, [.int .i64 (ipre xs k)], 72⟩, ⟨b1, (((io1 xs k).set k (ipre xs k)).flatMap f7), 72⟩]) f7_len f7_one (io1 xs k) (ipre xs k) k (0 + k * 1) 2 b1 72 rfl (by kernel_rfl) (by kernel_rfl) (by omega) (by rw [io1_length]; omega) Try.sizeOf72 (by kernel_rfl) (by kernel_rfl)) ?_
    refine S_nil ?_
    refine E_then ?_
    refine C_seq ?_
    refine C_region ?_
    refine S_val (.agg #[.int .i64 (xs.getD k 0)]) (by kernel_rfl) (ldN [.int .i64 (xs.getD k 0)] 0 b7 0 [.int .i64 (xs.getD k 0)] 72 rfl (by kernel_rfl) Try.isAgg72 Try.sizeOf72 (by kernel_rfl) (by kernel_rfl)) ?_
    refine S_val (.iface 72 (.agg #[.int .i64 (xs.getD k 0)])) (by kernel_rfl) (fun _ _ => by kernel_rfl) ?_
    refine S_pure (v := .bool ((xs.getD k 0) % 7 == 0)) (by kernel_rfl) (c_isZero (xs.getD k 0)) (fun _ => by kernel_rfl) ?_
    refine S_val (.bool (!((xs.getD k 0) % 7 == 0))) (by kernel_rfl) (fun _ _ => by kernel_rfl) ?_
    refine S_nil ?_
    refine E_then ?_
    refine C_if (!((xs.getD k 0) % 7 == 0)) (by kernel_rfl) (fun hz => ?_) (fun hz => ?_)
    · replace hz : ¬ (xs.getD k 0 % 7 = 0) := by simpa using hz
      refine C_region ?_
      refine S_val (.agg #[.int .i64 (ipre xs k)]) (by kernel_rfl) (ldN [.int .i64 (ipre xs k)] 1 b5 0 [.int .i64 (ipre xs k)] 72 rfl (by kernel_rfl) Try.isAgg72 Try.sizeOf72 (by kernel_rfl) (by kernel_rfl)) ?_
      refine S_val (.iface 72 (.agg #[.int .i64 (ipre xs k)])) (by kernel_rfl) (fun _ _ => by kernel_rfl) ?_
      refine S_val (.agg #[.int .i64 (xs.getD k 0)]) (by kernel_rfl) (ldN [.int .i64 (xs.getD k 0)] 0 b7 0 [.int .i64 (xs.getD k 0)] 72 rfl (by kernel_rfl) Try.isAgg72 Try.sizeOf72 (by kernel_rfl) (by kernel_rfl)) ?_
      refine S_pure (v := .agg #[.int .i64 (mu (ipre xs k) (xs.getD k 0))]) (by kernel_rfl) (c_mul (ipre xs k) (xs.getD k 0)) (fun _ => by kernel_rfl) ?_
      refine S_do (by kernel_rfl) (stN (L' := [⟨b7, [.int .i64 (xs.getD k 0)], 72⟩, ⟨b5, [.int .i64 (mu (ipre xs k) (xs.getD k 0))], 72⟩, ⟨b1, (((io1 xs k).set k (ipre xs k)).flatMap f7), 72⟩]) [.int .i64 (mu (ipre xs k) (xs.getD k 0))] 1 b5 0 [.int .i64 (ipre xs k)] 72 rfl (by kernel_rfl) (by kernel_rfl) Try.sizeOf72 (by simp [Value.oneCell']) (by kernel_rfl) (by simp) (by kernel_rfl)) ?_
      refine S_nil ?_
      refine E_inblock ?_
      refine E_then ?_
      refine C_region ?_
      refine S_val (.int .i64 ((k + 1 : Nat) : Int)) (by kernel_rfl) (fun _ _ => fv (v := .int .i64 (IntKind.i64.wrap (((k : Nat) : Int) + 1))) (vint (w64 (by omega) (by omega) (by omega))) (by kernel_rfl)) ?_
      refine S_val (.int .i64 ((k + 1 : Nat) : Int)) (by kernel_rfl) (fun _ _ => by kernel_rfl) ?_
      refine S_nil ?_
      exact E_norm (fun w hw => ⟨k + 1, by omega, (by kernel_rfl), (by (try dsimp only); omega), Own.eq hw.tail (by (try dsimp only); simp only [io1, ipre, if_neg hz])⟩)
    · replace hz : xs.getD k 0 % 7 = 0 := by simpa using hz
      refine C_skip ?_
      refine E_inblock ?_
      refine E_then ?_
      refine C_region ?_
      refine S_val (.int .i64 ((k + 1 : Nat) : Int)) (by kernel_rfl) (fun _ _ => fv (v := .int .i64 (IntKind.i64.wrap (((k : Nat) : Int) + 1))) (vint (w64 (by omega) (by omega) (by omega))) (by kernel_rfl)) ?_
      refine S_val (.int .i64 ((k + 1 : Nat) : Int)) (by kernel_rfl) (fun _ _ => by kernel_rfl) ?_
      refine S_nil ?_
      exact E_norm (fun w hw => ⟨k + 1, by omega, (by kernel_rfl), (by (try dsimp only); omega), Own.eq hw.tail (by (try dsimp only); simp only [io1, ipre, if_pos hz])⟩)
  · replace hc := of_decide_eq_false hc
    obtain rfl : k = xs.length := by omega
    refine C_exit ?_
    refine E_pass_exit ?_
    refine E_pass_exit ?_
    refine E_outblock ?_
    refine E_then ?_
    refine C_seq ?_
    refine C_region ?_
    refine S_val (.agg #[.int .i64 (ipre xs xs.length)]) (by kernel_rfl) (ldN [.int .i64 (ipre xs xs.length)] 0 b5 0 [.int .i64 (ipre xs xs.length)] 72 rfl (by kernel_rfl) Try.isAgg72 Try.sizeOf72 (by kernel_rfl) (by kernel_rfl)) ?_
    refine S_val (.iface 72 (.agg #[.int .i64 (ipre xs xs.length)])) (by kernel_rfl) (fun _ _ => by kernel_rfl) ?_
    refine S_pure (v := .agg #[.int .i64 (iv (ipre xs xs.length))]) (by kernel_rfl) (c_inv (ipre xs xs.length)) (fun _ => by kernel_rfl) ?_
    refine S_newv (fun nb0 => .pointer (some ⟨nb0, 0, none⟩)) [.int .i64 0] 72 (by kernel_rfl) (fun w _ => by kernel_rfl) ?_
    intro b8 hb8 Hb8
    refine S_do (by kernel_rfl) (stN (L' := [⟨b8, [.int .i64 (iv (ipre xs xs.length))], 72⟩, ⟨b5, [.int .i64 (ipre xs xs.length)], 72⟩, ⟨b1, ((io1 xs xs.length).flatMap f7), 72⟩]) [.int .i64 (iv (ipre xs xs.length))] 0 b8 0 [.int .i64 0] 72 rfl (by kernel_rfl) (by kernel_rfl) Try.sizeOf72 (by simp [Value.oneCell']) (by kernel_rfl) (by simp) (by kernel_rfl)) ?_
    refine S_nil ?_
    refine E_then ?_
    refine C_seq ?_
    refine C_seq ?_
    refine C_region ?_
    refine S_val (.slice (some ⟨bi2, oi3, none⟩) xs.length cap) (by kernel_rfl) (fun _ _ => by kernel_rfl) ?_
    refine S_val (.int .i64 ((xs.length : Nat) : Int)) (by kernel_rfl) (fun _ _ => by kernel_rfl) ?_
    refine S_val (.int .i64 (((xs.length : Nat) : Int) - 1 - ((0 : Nat) : Int))) (by kernel_rfl) (fun _ _ => fv (v := .int .i64 (IntKind.i64.wrap (((xs.length : Nat) : Int) - 1))) (vint (w64 (by omega) (by omega) (by omega))) (by kernel_rfl)) ?_
    refine S_val (.int .i64 (((xs.length : Nat) : Int) - 1 - ((0 : Nat) : Int))) (by kernel_rfl) (fun _ _ => by kernel_rfl) ?_
    refine S_nil ?_
    refine E_then ?_
    refine C_block ?_
    refine C_loop1 (fun (d : Nat) => (d ≤ xs.length)) (fun (d : Nat) => fun g => ⟨#[.slice (some ⟨bi2, oi3, none⟩) xs.length cap, g 1, g 2, .slice (some ⟨b1, 0, none⟩) xs.length xs.length, g 4, g 5, g 6, .pointer (some ⟨b8, 0, none⟩), .int .i64 (((xs.length : Nat) : Int) - 1 - (d : Int)), g 9, g 10, g 11, g 12, g 13, g 14, g 15, g 16, g 17, g 18, g 19, g 20, g 21, g 22, g 23, g 24, g 25, g 26, g 27, g 28, g 29, g 30, g 31, g 32, g 33, g 34, g 35, g 36, g 37, g 38, g 39, g 40, g 41, g 42, g 43, g 44, g 45, g 46, g 47, g 48, g 49, g 50, g 51, g 52, g 53, g 54, g 55, g 56, g 57, g 58, g 59, g 60, g 61, g 62, g 63, g 64, g 65, g 66, g 67, g 68, g 69, g 70, g 71, g 72, g 73, g 74, g 75, g 76, g 77, g 78], []⟩) (fun (d : Nat) => [⟨b8, [.int .i64 (ilf xs d)], 72⟩, ⟨b5, [.int .i64 (ipre xs xs.length)], 72⟩, ⟨b1, ((io2 xs d).flatMap f7), 72⟩]) (fun (d : Nat) => xs.length - d) 0 (by (try dsimp only); exact Nat.zero_le _) (by kernel_rfl) (by first | (dsimp only; done) | ((try dsimp only); kernel_rfl)) ?_
    rintro d g9 hd
    refine C_seq ?_
    refine C_seq ?_
    refine C_region ?_
    refine S_val (.int .i64 (((xs.length : Nat) : Int) - 1 - (d : Int))) (by kernel_rfl) (fun _ _ => by kernel_rfl) ?_
    refine S_val (.bool (decide (((xs.length : Nat) : Int) - 1 - (d : Int) ≥ 0))) (by kernel_rfl) (fun _ _ => by kernel_rfl) ?_
    refine S_nil ?_
    refine E_then ?_
    refine C_if (decide (((xs.length : Nat) : Int) - 1 - (d : Int) ≥ 0)) (by kernel_rfl) (fun hc => ?_) (fun hc => ?_)
    · replace hc := of_decide_eq_true hc
      refine C_skip ?_
      refine E_then ?_
      refine C_seq ?_
      refine C_block ?_
      refine C_seq ?_
      refine C_seq ?_
      refine C_region ?_
      refine S_val (.slice (some ⟨bi2, oi3, none⟩) xs.length cap) (by kernel_rfl) (fun _ _ => by kernel_rfl) ?_
      refine S_val (.int .i64 ((xs.length - 1 - d : Nat) : Int)) (by kernel_rfl) (fun _ _ => fv (v := .int .i64 (((xs.length : Nat) : Int) - 1 - (d : Int))) (vint (by omega)) (by kernel_rfl)) ?_
      refine S_val (.pointer (some ⟨bi2, oi3 + (xs.length - 1 - d) * 1, none⟩)) (by kernel_rfl) (fun w _ => (ixS (k := .i64) bi2 oi3 xs.length cap 1 (xs.length - 1 - d) rfl (by kernel_rfl) (by kernel_rfl) Try.underlying69 Try.sizeOf72 (by omega)) w) ?_
      refine S_val (.agg #[.int .i64 (xs.getD (xs.length - 1 - d) 0)]) (by kernel_rfl) (ldR f7_len 0 (xs.length - 1 - d) bi2 oi3 (oi3 + (xs.length - 1 - d) * 1) hi4 rfl (by kernel_rfl) rfl (by omega) Try.isAgg72 Try.sizeOf72) ?_
      refine S_val (.iface 72 (.agg #[.int .i64 (xs.getD (xs.length - 1 - d) 0)])) (by kernel_rfl) (fun _ _ => by kernel_rfl) ?_
      refine S_pure (v := .bool ((xs.getD (xs.length - 1 - d) 0) % 7 == 0)) (by kernel_rfl) (c_isZero (xs.getD (xs.length - 1 - d) 0)) (fun _ => by kernel_rfl) ?_
      refine S_nil ?_
      refine E_then ?_
      refine C_if ((xs.getD (xs.length - 1 - d) 0) % 7 == 0) (by kernel_rfl) (fun hz => ?_) (fun hz => ?_)
      · replace hz := eq_of_beq hz
        refine C_seq ?_
        refine C_region ?_
        refine S_newv (fun nb0 => .pointer (some ⟨nb0, 0, none⟩)) [.int .i64 0] 72 (by kernel_rfl) (fun w _ => by kernel_rfl) ?_
        intro b10 hb10 Hb10
        refine S_nil ?_
        refine E_then ?_
        refine C_seq ?_
        refine C_region ?_
        refine S_val (.slice (some ⟨b1, 0, none⟩) xs.length xs.length) (by kernel_rfl) (fun _ _ => by kernel_rfl) ?_
        refine S_val (.int .i64 ((xs.length - 1 - d : Nat) : Int)) (by kernel_rfl) (fun _ _ => fv (v := .int .i64 (((xs.length : Nat) : Int) - 1 - (d : Int))) (vint (by omega)) (by kernel_rfl)) ?_
        refine S_val (.agg #[.int .i64 0]) (by kernel_rfl) (ldN [.int .i64 0] 0 b10 0 [.int .i64 0] 72 rfl (by kernel_rfl) Try.isAgg72 Try.sizeOf72 (by kernel_rfl) (by kernel_rfl)) ?_
        refine S_val (.pointer (some ⟨b1, 0 + (xs.length - 1 - d) * 1, none⟩)) (by kernel_rfl) (fun w _ => (ixS (k := .i64) b1 0 xs.length xs.length 1 (xs.length - 1 - d) rfl (by kernel_rfl) (by kernel_rfl) Try.underlying69 Try.sizeOf72 (by omega)) w) ?_
        refine S_do (by kernel_rfl) (stF (L' := [⟨b10, [.int .i64 0], 72⟩, ⟨b8, [.int .i64 (ilf xs d)], 72⟩, ⟨b5, [.int .i64 (ipre xs xs.length)], 72⟩, ⟨b1, (((io2 xs d).set (xs.length - 1 - d) 0).flatMap f7), 72⟩]) f7_len f7_one (io2 xs d) 0 (xs.length - 1 - d) (0 + (xs.length - 1 - d) * 1) 3 b1 72 rfl (by kernel_rfl) (by kernel_rfl) (by omega) (by rw [io2_length]; omega) Try.sizeOf72 (by kernel_rfl) (by kernel_rfl)) ?_
        refine S_nil ?_
        refine E_then ?_
        refine C_exit ?_
        refine E_pass_exit ?_
        refine E_outblock ?_
        refine E_then ?_
        refine C_region ?_
        refine S_val (.int .i64 (((xs.length : Nat) : Int) - 1 - (d : Int))) (by kernel_rfl) (fun _ _ => by kernel_rfl) ?_
        refine S_val (.int .i64 (((xs.length : Nat) : Int) - 1 - ((d + 1 : Nat) : Int))) (by kernel_rfl) (fun _ _ => fv (v := .int .i64 (IntKind.i64.wrap ((((xs.length : Nat) : Int) - 1 - (d : Int)) - 1))) (vint (w64 (by omega) (by omega) (by omega))) (by kernel_rfl)) ?_
        refine S_val (.int .i64 (((xs.length : Nat) : Int) - 1 - ((d + 1 : Nat) : Int))) (by kernel_rfl) (fun _ _ => by kernel_rfl) ?_
        refine S_nil ?_
        exact E_norm (fun w hw => ⟨d + 1, by omega, (by kernel_rfl), (by (try dsimp only); omega), Own.eq hw.tail (by (try dsimp only); simp only [io2, ilf, if_pos hz])⟩)
      · replace hz := ne_of_beq_false hz
        refine C_skip ?_
        refine E_then ?_
        refine C_seq ?_
        refine C_drawn [.pure, .pure, .pure, .pure, .pure, .held, .pure, .held, .held, .pure, .eff] (by kernel_rfl) (by kernel_rfl) ?_
        refine D_val (.slice (some ⟨b1, 0, none⟩) xs.length xs.length) (by kernel_rfl) (fun _ => by kernel_rfl) ?_
        refine D_val (.int .i64 ((xs.length - 1 - d : Nat) : Int)) (by kernel_rfl) (fun _ => fv (v := .int .i64 (((xs.length : Nat) : Int) - 1 - (d : Int))) (vint (by omega)) (by kernel_rfl)) ?_
        refine D_val (.slice (some ⟨b1, 0, none⟩) xs.length xs.length) (by kernel_rfl) (fun _ => by kernel_rfl) ?_
        refine D_val (.int .i64 ((xs.length - 1 - d : Nat) : Int)) (by kernel_rfl) (fun _ => fv (v := .int .i64 (((xs.length : Nat) : Int) - 1 - (d : Int))) (vint (by omega)) (by kernel_rfl)) ?_
        refine D_val (.pointer (some ⟨b1, 0 + (xs.length - 1 - d) * 1, none⟩)) (by kernel_rfl) (ixS (k := .i64) b1 0 xs.length xs.length 1 (xs.length - 1 - d) rfl (by kernel_rfl) (by kernel_rfl) Try.underlying69 Try.sizeOf72 (by omega)) ?_
        refine D_held (.agg #[.int .i64 ((io2 xs d).getD (xs.length - 1 - d) 0)]) (by kernel_rfl) (ldF f7_len (io2 xs d) 0 (xs.length - 1 - d) (0 + (xs.length - 1 - d) * 1) 2 b1 72 rfl (by kernel_rfl) (by omega) (by rw [io2_length]; omega) Try.isAgg72 Try.sizeOf72 (by kernel_rfl)) ?_
        refine D_val (.iface 72 (.agg #[.int .i64 ((io2 xs d).getD (xs.length - 1 - d) 0)])) (by kernel_rfl) (fun _ => by kernel_rfl) ?_
        refine D_held (.agg #[.int .i64 (ilf xs d)]) (by kernel_rfl) (ldN [.int .i64 (ilf xs d)] 0 b8 0 [.int .i64 (ilf xs d)] 72 rfl (by kernel_rfl) Try.isAgg72 Try.sizeOf72 (by kernel_rfl) (by kernel_rfl)) ?_
        refine D_pure (v := .agg #[.int .i64 (mu ((io2 xs d).getD (xs.length - 1 - d) 0) (ilf xs d))]) (by kernel_rfl) (c_mul ((io2 xs d).getD (xs.length - 1 - d) 0) (ilf xs d)) (fun _ => by kernel_rfl) ?_
        refine D_val (.pointer (some ⟨b1, 0 + (xs.length - 1 - d) * 1, none⟩)) (by kernel_rfl) (ixS (k := .i64) b1 0 xs.length xs.length 1 (xs.length - 1 - d) rfl (by kernel_rfl) (by kernel_rfl) Try.underlying69 Try.sizeOf72 (by omega)) ?_
        refine D_do (by kernel_rfl) (stF (L' := [⟨b8, [.int .i64 (ilf xs d)], 72⟩, ⟨b5, [.int .i64 (ipre xs xs.length)], 72⟩, ⟨b1, (((io2 xs d).set (xs.length - 1 - d) (mu ((io2 xs d).getD (xs.length - 1 - d) 0) (ilf xs d))).flatMap f7), 72⟩]) f7_len f7_one (io2 xs d) (mu ((io2 xs d).getD (xs.length - 1 - d) 0) (ilf xs d)) (xs.length - 1 - d) (0 + (xs.length - 1 - d) * 1) 2 b1 72 rfl (by kernel_rfl) (by kernel_rfl) (by omega) (by rw [io2_length]; omega) Try.sizeOf72 (by kernel_rfl) (by kernel_rfl)) ?_
        refine D_nil ?_
        refine E_then ?_
        refine C_drawn [.held, .pure, .pure, .pure, .pure, .held, .held, .eff] (by kernel_rfl) (by kernel_rfl) ?_
        refine D_held (.agg #[.int .i64 (ilf xs d)]) (by kernel_rfl) (ldN [.int .i64 (ilf xs d)] 0 b8 0 [.int .i64 (ilf xs d)] 72 rfl (by kernel_rfl) Try.isAgg72 Try.sizeOf72 (by kernel_rfl) (by kernel_rfl)) ?_
        refine D_val (.iface 72 (.agg #[.int .i64 (ilf xs d)])) (by kernel_rfl) (fun _ => by kernel_rfl) ?_
        refine D_val (.slice (some ⟨bi2, oi3, none⟩) xs.length cap) (by kernel_rfl) (fun _ => by kernel_rfl) ?_
        refine D_val (.int .i64 ((xs.length - 1 - d : Nat) : Int)) (by kernel_rfl) (fun _ => fv (v := .int .i64 (((xs.length : Nat) : Int) - 1 - (d : Int))) (vint (by omega)) (by kernel_rfl)) ?_
        refine D_val (.pointer (some ⟨bi2, oi3 + (xs.length - 1 - d) * 1, none⟩)) (by kernel_rfl) (ixS (k := .i64) bi2 oi3 xs.length cap 1 (xs.length - 1 - d) rfl (by kernel_rfl) (by kernel_rfl) Try.underlying69 Try.sizeOf72 (by omega)) ?_
        refine D_held (.agg #[.int .i64 (xs.getD (xs.length - 1 - d) 0)]) (by kernel_rfl) (ldR f7_len 0 (xs.length - 1 - d) bi2 oi3 (oi3 + (xs.length - 1 - d) * 1) hi4 rfl (by kernel_rfl) rfl (by omega) Try.isAgg72 Try.sizeOf72) ?_
        refine D_pure (v := .agg #[.int .i64 (mu (ilf xs d) (xs.getD (xs.length - 1 - d) 0))]) (by kernel_rfl) (c_mul (ilf xs d) (xs.getD (xs.length - 1 - d) 0)) (fun _ => by kernel_rfl) ?_
        refine D_do (by kernel_rfl) (stN (L' := [⟨b8, [.int .i64 (mu (ilf xs d) (xs.getD (xs.length - 1 - d) 0))], 72⟩, ⟨b5, [.int .i64 (ipre xs xs.length)], 72⟩, ⟨b1, (((io2 xs d).set (xs.length - 1 - d) (mu ((io2 xs d).getD (xs.length - 1 - d) 0) (ilf xs d))).flatMap f7), 72⟩]) [.int .i64 (mu (ilf xs d) (xs.getD (xs.length - 1 - d) 0))] 0 b8 0 [.int .i64 (ilf xs d)] 72 rfl (by kernel_rfl) (by kernel_rfl) Try.sizeOf72 (by simp [Value.oneCell']) (by kernel_rfl) (by simp) (by kernel_rfl)) ?_
        refine D_nil ?_
        refine E_inblock ?_
        refine E_then ?_
        refine C_region ?_
        refine S_val (.int .i64 (((xs.length : Nat) : Int) - 1 - (d : Int))) (by kernel_rfl) (fun _ _ => by kernel_rfl) ?_
        refine S_val (.int .i64 (((xs.length : Nat) : Int) - 1 - ((d + 1 : Nat) : Int))) (by kernel_rfl) (fun _ _ => fv (v := .int .i64 (IntKind.i64.wrap ((((xs.length : Nat) : Int) - 1 - (d : Int)) - 1))) (vint (w64 (by omega) (by omega) (by omega))) (by kernel_rfl)) ?_
        refine S_val (.int .i64 (((xs.length : Nat) : Int) - 1 - ((d + 1 : Nat) : Int))) (by kernel_rfl) (fun _ _ => by kernel_rfl) ?_
        refine S_nil ?_
        exact E_norm (fun w hw => ⟨d + 1, by omega, (by kernel_rfl), (by (try dsimp only); omega), Own.eq hw (by (try dsimp only); simp only [io2, ilf, if_neg hz])⟩)
    · replace hc := of_decide_eq_false hc
      obtain rfl : d = xs.length := by omega
      refine C_exit ?_
      refine E_pass_exit ?_
      refine E_pass_exit ?_
      refine E_outblock ?_
      refine E_then ?_
      refine C_seq ?_
      refine C_region ?_
      refine S_val (.slice (some ⟨b1, 0, none⟩) xs.length xs.length) (by kernel_rfl) (fun _ _ => by kernel_rfl) ?_
      refine S_val (.slice (some ⟨b1, 0, none⟩) xs.length xs.length) (by kernel_rfl) (fun _ _ => by kernel_rfl) ?_
      refine S_nil ?_
      refine E_then ?_
      refine C_ret ?_
      exact gives_row (mk := (fun v => v)) (Rw.whole' f7_len b1 (io2 xs xs.length) xs.length (by exact io2_length _ _) (le_maxLen (by omega))) (sub1 2 (by kernel_rfl)) rfl (res1 Try.results87 (by kernel_rfl))
end Go.Vk
