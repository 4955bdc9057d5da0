/- What functions of the program do: walks, printed by a program of my own. -/
import Derived.Test.YthmlkndmpkcjdaaFieldP
set_option linter.unusedVariables false
set_option linter.unusedSimpArgs false
namespace Go.Vk
open Go Go.RowKit Go.Proofs
theorem c_interp_twice (w0 : World) (v u : Value) (xs ys : List Int) (hv : Rd w0 v 1 f7 xs) (hu : Rd w0 u 1 f7 ys) (hxy : ys.length = xs.length) (hl : xs.length ≤ 1000) (hd : dup xs) : Calls Try.prog 57 #[v, u] w0 fun e w' => e = .returned (.tuple #[.slice none 0 0, .int .i64 60]) ∧ Below w0.heap.size w0 w' := by
  obtain ⟨ao, cap, rfl, hx⟩ := hv.o
  obtain ⟨ao2, cap2, e2, hy⟩ := hu.o
  rw [hxy] at e2
  subst e2
  refine calls_start Try.func57 rfl ?_
  refine C_seq ?_
  refine C_region ?_
  refine S_val (.slice none 0 0) (by kernel_rfl) (fun _ _ => by kernel_rfl) ?_
  refine S_val (.int .i64 0) (by kernel_rfl) (fun _ _ => by kernel_rfl) ?_
  refine S_nil ?_
  refine E_then ?_
  refine C_seq ?_
  refine C_seq ?_
  refine C_region ?_
  refine S_val (.slice ao xs.length cap) (by kernel_rfl) (fun _ _ => by kernel_rfl) ?_
  refine S_val (.int .i64 ((xs.length : Nat) : Int)) (by kernel_rfl) (fun _ _ => by kernel_rfl) ?_
  refine S_val (.slice ao2 xs.length cap2) (by kernel_rfl) (fun _ _ => by kernel_rfl) ?_
  refine S_val (.int .i64 ((xs.length : Nat) : Int)) (by kernel_rfl) (fun _ _ => by kernel_rfl) ?_
  refine S_val (.bool false) (by kernel_rfl) (fun _ _ => fv (v := .bool (((xs.length : Nat) : Int) != ((xs.length : Nat) : Int))) (vbool (bne_eq_false_iff_eq.2 (by omega))) (by kernel_rfl)) ?_
  refine S_nil ?_
  refine E_then ?_
  refine C_false (by kernel_rfl) ?_
  refine C_skip ?_
  refine E_then ?_
  refine C_seq ?_
  refine C_seq ?_
  refine C_region ?_
  refine S_val (.slice ao xs.length cap) (by kernel_rfl) (fun _ _ => by kernel_rfl) ?_
  refine S_val (.int .i64 ((xs.length : Nat) : Int)) (by kernel_rfl) (fun _ _ => by kernel_rfl) ?_
  refine S_val (.int .i64 0) (by kernel_rfl) (fun _ _ => by kernel_rfl) ?_
  refine S_nil ?_
  refine E_then ?_
  refine C_block ?_
  refine C_loop1 (fun (i : Nat) => (i ≤ xs.length) ∧ (∀ q j, j < q → q < i → ¬ su (xs.getD q 0) (xs.getD j 0) % 7 = 0)) (fun (i : Nat) => fun g => ⟨#[.slice ao xs.length cap, .slice ao2 xs.length cap2, g 2, g 3, g 4, g 5, g 6, g 7, g 8, g 9, g 10, g 11, g 12, g 13, g 14, g 15, g 16, g 17, g 18, g 19, g 20, g 21, g 22, g 23, g 24, g 25, g 26, g 27, .int .i64 ((xs.length : Nat) : Int), .int .i64 ((i : Nat) : Int), g 30, g 31, g 32, g 33, g 34, g 35, g 36, g 37, g 38, g 39, g 40, g 41, g 42, g 43, g 44, g 45, g 46, g 47, g 48, g 49, g 50, g 51, g 52, g 53, g 54, g 55, g 56, g 57, g 58, g 59, g 60, g 61, g 62, g 63, g 64, g 65, g 66, g 67, g 68, g 69, g 70, g 71, g 72, g 73, g 74, g 75, g 76, g 77, g 78, g 79, g 80, g 81, g 82, g 83, g 84, g 85, g 86, g 87, g 88, g 89, g 90, g 91, g 92, g 93, g 94, g 95, g 96, g 97, g 98, g 99, g 100, g 101, g 102, g 103, g 104, g 105, g 106, g 107, g 108, g 109, g 110, g 111, g 112, g 113, g 114, g 115, g 116, g 117, g 118, g 119, g 120, g 121, g 122, g 123, g 124, g 125, g 126, g 127, g 128, g 129, g 130, g 131, g 132, g 133, g 134, g 135, g 136, g 137, g 138, g 139, g 140, g 141, g 142, g 143, g 144, g 145], []⟩) (fun (i : Nat) => []) (fun (i : Nat) => xs.length - i) 0 (by (try dsimp only); exact ⟨Nat.zero_le _, fun q j h1 h2 => (by omega)⟩) (by kernel_rfl) (by first | (dsimp only; done) | ((try dsimp only); kernel_rfl)) ?_
  rintro i g1 ⟨hi, hno⟩
  refine C_seq ?_
  refine C_region ?_
  refine S_val (.bool (decide (((i : Nat) : Int) < ((xs.length : Nat) : Int)))) (by kernel_rfl) (fun _ _ => by kernel_rfl) ?_
  refine S_nil ?_
  refine E_then ?_
  refine C_seq ?_
  refine C_if (decide (((i : Nat) : Int) < ((xs.length : Nat) : Int))) (by kernel_rfl) (fun hc => ?_) (fun hc => ?_)
  · replace hc := of_decide_eq_true hc
    obtain ⟨bi2, oi3, rfl, hi4⟩ := hx.op (by omega)
    refine C_skip ?_
    refine E_then ?_
    refine C_seq ?_
    refine C_block ?_
    refine C_seq ?_
    refine C_region ?_
    refine S_val (.int .i64 ((i : Nat) : Int)) (by kernel_rfl) (fun _ _ => by kernel_rfl) ?_
    refine S_val (.int .i64 ((i : Nat) : Int)) (by kernel_rfl) (fun _ _ => by kernel_rfl) ?_
    refine S_nil ?_
    refine E_then ?_
    refine C_seq ?_
    refine C_region ?_
    refine S_val (.int .i64 ((i : Nat) : Int)) (by kernel_rfl) (fun _ _ => by kernel_rfl) ?_
    refine S_val (.int .i64 0) (by kernel_rfl) (fun _ _ => by kernel_rfl) ?_
    refine S_nil ?_
    refine E_then ?_
    refine C_block ?_
    refine C_loop1 (fun (j : Nat) => (j ≤ i) ∧ (∀ q, q < j → ¬ su (xs.getD i 0) (xs.getD q 0) % 7 = 0)) (fun (j : Nat) => fun g => ⟨#[.slice (some ⟨bi2, oi3, none⟩) xs.length cap, .slice ao2 xs.length cap2, g 2, g 3, g 4, g 5, .int .i64 ((i : Nat) : Int), g 7, g 8, g 9, g 10, g 11, g 12, g 13, g 14, g 15, g 16, g 17, g 18, g 19, g 20, g 21, g 22, g 23, g 24, g 25, g 26, g 27, .int .i64 ((xs.length : Nat) : Int), .int .i64 ((i : Nat) : Int), g 30, g 31, .int .i64 ((i : Nat) : Int), .int .i64 ((j : Nat) : Int), g 34, g 35, g 36, g 37, g 38, g 39, g 40, g 41, g 42, g 43, g 44, g 45, g 46, g 47, g 48, g 49, g 50, g 51, g 52, g 53, g 54, g 55, g 56, g 57, g 58, g 59, g 60, g 61, g 62, g 63, g 64, g 65, g 66, g 67, g 68, g 69, g 70, g 71, g 72, g 73, g 74, g 75, g 76, g 77, g 78, g 79, g 80, g 81, g 82, g 83, g 84, g 85, g 86, g 87, g 88, g 89, g 90, g 91, g 92, g 93, g 94, g 95, g 96, g 97, g 98, g 99, g 100, g 101, g 102, g 103, g 104, g 105, g 106, g 107, g 108, g 109, g 110, g 111, g 112, g 113, g 114, g 115, g 116, g 117, g 118, g 119, g 120, g 121, g 122, g 123, g 124, g 125, g 126, g 127, g 128, g 129, g 130, g 131, g 132, g 133, g 134, g 135, g 136, g 137, g 138, g 139, g 140, g 141, g 142, g 143, g 144, g 145], []⟩) (fun (j : Nat) => []) (fun (j : Nat) => i - j) 0 (by (try dsimp only); exact ⟨Nat.zero_le _, fun q h1 => (by omega)⟩) (by kernel_rfl) (by first | (dsimp only; done) | ((try dsimp only); kernel_rfl)) ?_
    rintro j g5 ⟨hj, hno2⟩
    refine C_seq ?_
    refine C_region ?_
    refine S_val (.bool (decide (((j : Nat) : Int) < ((i : Nat) : Int)))) (by kernel_rfl) (fun _ _ => by kernel_rfl) ?_
    refine S_nil ?_
    refine E_then ?_
    refine C_seq ?_
    refine C_if (decide (((j : Nat) : Int) < ((i : Nat) : Int))) (by kernel_rfl) (fun hc2 => ?_) (fun hc2 => ?_)
    · replace hc2 := of_decide_eq_true hc2
      refine C_skip ?_
      refine E_then ?_
      refine C_seq ?_
      refine C_block ?_
      refine C_seq ?_
      refine C_region ?_
      refine S_val (.int .i64 ((j : Nat) : Int)) (by kernel_rfl) (fun _ _ => by kernel_rfl) ?_
      refine S_val (.int .i64 ((j : Nat) : Int)) (by kernel_rfl) (fun _ _ => by kernel_rfl) ?_
      refine S_nil ?_
      refine E_then ?_
      refine C_seq ?_
      refine C_drawn [.pure, .pure, .pure, .held, .pure, .pure, .pure, .held, .held] (by kernel_rfl) (by kernel_rfl) ?_
      refine D_val (.slice (some ⟨bi2, oi3, none⟩) xs.length cap) (by kernel_rfl) (fun _ => by kernel_rfl) ?_
      refine D_val (.int .i64 ((i : Nat) : Int)) (by kernel_rfl) (fun _ => by kernel_rfl) ?_
      refine D_val (.pointer (some ⟨bi2, oi3 + i * 1, none⟩)) (by kernel_rfl) (ixS (k := .i64) bi2 oi3 xs.length cap 1 i rfl (by kernel_rfl) (by kernel_rfl) Try.underlying69 Try.sizeOf72 (by omega)) ?_
      refine D_held (.agg #[.int .i64 (xs.getD i 0)]) (by kernel_rfl) (ldR f7_len 0 i bi2 oi3 (oi3 + i * 1) hi4 rfl (by kernel_rfl) rfl (by omega) Try.isAgg72 Try.sizeOf72) ?_
      refine D_val (.slice (some ⟨bi2, oi3, none⟩) xs.length cap) (by kernel_rfl) (fun _ => by kernel_rfl) ?_
      refine D_val (.int .i64 ((j : Nat) : Int)) (by kernel_rfl) (fun _ => by kernel_rfl) ?_
      refine D_val (.pointer (some ⟨bi2, oi3 + j * 1, none⟩)) (by kernel_rfl) (ixS (k := .i64) bi2 oi3 xs.length cap 1 j rfl (by kernel_rfl) (by kernel_rfl) Try.underlying69 Try.sizeOf72 (by omega)) ?_
      refine D_held (.agg #[.int .i64 (xs.getD j 0)]) (by kernel_rfl) (ldR f7_len 0 j bi2 oi3 (oi3 + j * 1) hi4 rfl (by kernel_rfl) rfl (by omega) Try.isAgg72 Try.sizeOf72) ?_
      refine D_pure (v := .bool (su (xs.getD i 0) (xs.getD j 0) % 7 == 0)) (by kernel_rfl) (c_same (xs.getD i 0) (xs.getD j 0)) (fun _ => by kernel_rfl) ?_
      refine D_nil ?_
      refine E_then ?_
      refine C_if (su (xs.getD i 0) (xs.getD j 0) % 7 == 0) (by kernel_rfl) (fun hs => ?_) (fun hs => ?_)
      · replace hs := eq_of_beq hs
        refine C_seq ?_
        refine C_region ?_
        refine S_val (.slice none 0 0) (by kernel_rfl) (fun _ _ => by kernel_rfl) ?_
        refine S_val (.int .i64 60) (by kernel_rfl) (fun _ _ => by kernel_rfl) ?_
        refine S_nil ?_
        refine E_then ?_
        refine C_ret ?_
        refine E_retblock ?_
        refine E_pass_ret ?_
        refine E_pass_ret ?_
        refine E_retblock ?_
        refine E_retblock ?_
        refine E_pass_ret ?_
        refine E_pass_ret ?_
        refine E_retblock ?_
        refine E_pass_ret ?_
        exact pure_ret rfl (resM (rs := [.tmp 4, .tmp 5]) Try.results57 [.slice none 0 0, .int .i64 60] (by simp) (fun w hO => (.tmp (by kernel_rfl) (.tmp (by kernel_rfl) .nil))))
      · replace hs := ne_of_beq_false hs
        refine C_skip ?_
        refine E_inblock ?_
        refine E_then ?_
        refine C_region ?_
        refine S_val (.int .i64 ((j + 1 : Nat) : Int)) (by kernel_rfl) (fun _ _ => fv (v := .int .i64 (IntKind.i64.wrap (((j : Nat) : Int) + 1))) (vint (w64 (by omega) (by omega) (by omega))) (by kernel_rfl)) ?_
        refine S_val (.int .i64 ((j + 1 : Nat) : Int)) (by kernel_rfl) (fun _ _ => by kernel_rfl) ?_
        refine S_nil ?_
        exact E_norm (fun w hw => ⟨j + 1, ⟨by omega, fun q h1 => (by rcases Nat.lt_succ_iff_lt_or_eq.1 h1 with h3 | h3; exact hno2 q h3; subst h3; exact hs)⟩, (by kernel_rfl), (by (try dsimp only); omega), hw⟩)
    · replace hc2 := of_decide_eq_false hc2
      refine C_exit ?_
      refine E_pass_exit ?_
      refine E_pass_exit ?_
      refine E_outblock ?_
      refine E_inblock ?_
      refine E_then ?_
      refine C_region ?_
      refine S_val (.int .i64 ((i + 1 : Nat) : Int)) (by kernel_rfl) (fun _ _ => fv (v := .int .i64 (IntKind.i64.wrap (((i : Nat) : Int) + 1))) (vint (w64 (by omega) (by omega) (by omega))) (by kernel_rfl)) ?_
      refine S_val (.int .i64 ((i + 1 : Nat) : Int)) (by kernel_rfl) (fun _ _ => by kernel_rfl) ?_
      refine S_nil ?_
      exact E_norm (fun w hw => ⟨i + 1, ⟨by omega, fun q j h1 h2 => (by rcases Nat.lt_succ_iff_lt_or_eq.1 h2 with h3 | h3; exact hno q j h1 h3; subst h3; exact hno2 j (by omega))⟩, (by kernel_rfl), (by (try dsimp only); omega), hw⟩)
  · replace hc := of_decide_eq_false hc
    obtain ⟨q, j, h1, h2, h3⟩ := hd
    exact absurd h3 (hno q j h1 (by omega))
theorem c_interp_nil (w0 : World) (v u : Value) (xs ys : List Int) (hv : Rd w0 v 1 f7 xs) (hu : Rd w0 u 1 f7 ys) (hxy : ys.length = xs.length) (hl : xs.length ≤ 1000) (h0 : xs.length = 0) (hnd : ¬ dup xs) : Calls Try.prog 57 #[v, u] w0 fun e w' => e = .returned (.tuple #[.slice none 0 0, .int .i64 0]) ∧ Below w0.heap.size w0 w' := by
  obtain ⟨ao, cap, rfl, hx⟩ := hv.o
  obtain ⟨ao2, cap2, e2, hy⟩ := hu.o
  rw [hxy] at e2
  subst e2
  refine calls_start Try.func57 rfl ?_
  refine C_seq ?_
  refine C_region ?_
  refine S_val (.slice none 0 0) (by kernel_rfl) (fun _ _ => by kernel_rfl) ?_
  refine S_val (.int .i64 0) (by kernel_rfl) (fun _ _ => by kernel_rfl) ?_
  refine S_nil ?_
  refine E_then ?_
  refine C_seq ?_
  refine C_seq ?_
  refine C_region ?_
  refine S_val (.slice ao xs.length cap) (by kernel_rfl) (fun _ _ => by kernel_rfl) ?_
  refine S_val (.int .i64 ((xs.length : Nat) : Int)) (by kernel_rfl) (fun _ _ => by kernel_rfl) ?_
  refine S_val (.slice ao2 xs.length cap2) (by kernel_rfl) (fun _ _ => by kernel_rfl) ?_
  refine S_val (.int .i64 ((xs.length : Nat) : Int)) (by kernel_rfl) (fun _ _ => by kernel_rfl) ?_
  refine S_val (.bool false) (by kernel_rfl) (fun _ _ => fv (v := .bool (((xs.length : Nat) : Int) != ((xs.length : Nat) : Int))) (vbool (bne_eq_false_iff_eq.2 (by omega))) (by kernel_rfl)) ?_
  refine S_nil ?_
  refine E_then ?_
  refine C_false (by kernel_rfl) ?_
  refine C_skip ?_
  refine E_then ?_
  refine C_seq ?_
  refine C_seq ?_
  refine C_region ?_
  refine S_val (.slice ao xs.length cap) (by kernel_rfl) (fun _ _ => by kernel_rfl) ?_
  refine S_val (.int .i64 ((xs.length : Nat) : Int)) (by kernel_rfl) (fun _ _ => by kernel_rfl) ?_
  refine S_val (.int .i64 0) (by kernel_rfl) (fun _ _ => by kernel_rfl) ?_
  refine S_nil ?_
  refine E_then ?_
  refine C_block ?_
  refine C_loop1 (fun (i : Nat) => (i ≤ xs.length) ∧ (∀ q j, j < q → q < i → ¬ su (xs.getD q 0) (xs.getD j 0) % 7 = 0)) (fun (i : Nat) => fun g => ⟨#[.slice ao xs.length cap, .slice ao2 xs.length cap2, g 2, g 3, g 4, g 5, g 6, g 7, g 8, g 9, g 10, g 11, g 12, g 13, g 14, g 15, g 16, g 17, g 18, g 19, g 20, g 21, g 22, g 23, g 24, g 25, g 26, g 27, .int .i64 ((xs.length : Nat) : Int), .int .i64 ((i : Nat) : Int), g 30, g 31, g 32, g 33, g 34, g 35, g 36, g 37, g 38, g 39, g 40, g 41, g 42, g 43, g 44, g 45, g 46, g 47, g 48, g 49, g 50, g 51, g 52, g 53, g 54, g 55, g 56, g 57, g 58, g 59, g 60, g 61, g 62, g 63, g 64, g 65, g 66, g 67, g 68, g 69, g 70, g 71, g 72, g 73, g 74, g 75, g 76, g 77, g 78, g 79, g 80, g 81, g 82, g 83, g 84, g 85, g 86, g 87, g 88, g 89, g 90, g 91, g 92, g 93, g 94, g 95, g 96, g 97, g 98, g 99, g 100, g 101, g 102, g 103, g 104, g 105, g 106, g 107, g 108, g 109, g 110, g 111, g 112, g 113, g 114, g 115, g 116, g 117, g 118, g 119, g 120, g 121, g 122, g 123, g 124, g 125, g 126, g 127, g 128, g 129, g 130, g 131, g 132, g 133, g 134, g 135, g 136, g 137, g 138, g 139, g 140, g 141, g 142, g 143, g 144, g 145], []⟩) (fun (i : Nat) => []) (fun (i : Nat) => xs.length - i) 0 (by (try dsimp only); exact ⟨Nat.zero_le _, fun q j h1 h2 => (by omega)⟩) (by kernel_rfl) (by first | (dsimp only; done) | ((try dsimp only); kernel_rfl)) ?_
  rintro i g1 ⟨hi, hno⟩
  refine C_seq ?_
  refine C_region ?_
  refine S_val (.bool (decide (((i : Nat) : Int) < ((xs.length : Nat) : Int)))) (by kernel_rfl) (fun _ _ => by kernel_rfl) ?_
  refine S_nil ?_
  refine E_then ?_
  refine C_seq ?_
  refine C_if (decide (((i : Nat) : Int) < ((xs.length : Nat) : Int))) (by kernel_rfl) (fun hc => ?_) (fun hc => ?_)
  · replace hc := of_decide_eq_true hc
    obtain ⟨bi2, oi3, rfl, hi4⟩ := hx.op (by omega)
    refine C_skip ?_
    refine E_then ?_
    refine C_seq ?_
    refine C_block ?_
    refine C_seq ?_
    refine C_region ?_
    refine S_val (.int .i64 ((i : Nat) : Int)) (by kernel_rfl) (fun _ _ => by kernel_rfl) ?_
    refine S_val (.int .i64 ((i : Nat) : Int)) (by kernel_rfl) (fun _ _ => by kernel_rfl) ?_
    refine S_nil ?_
    refine E_then ?_
    refine C_seq ?_
    refine C_region ?_
    refine S_val (.int .i64 ((i : Nat) : Int)) (by kernel_rfl) (fun _ _ => by kernel_rfl) ?_
    refine S_val (.int .i64 0) (by kernel_rfl) (fun _ _ => by kernel_rfl) ?_
    refine S_nil ?_
    refine E_then ?_
    refine C_block ?_
    refine C_loop1 (fun (j : Nat) => (j ≤ i) ∧ (∀ q, q < j → ¬ su (xs.getD i 0) (xs.getD q 0) % 7 = 0)) (fun (j : Nat) => fun g => ⟨#[.slice (some ⟨bi2, oi3, none⟩) xs.length cap, .slice ao2 xs.length cap2, g 2, g 3, g 4, g 5, .int .i64 ((i : Nat) : Int), g 7, g 8, g 9, g 10, g 11, g 12, g 13, g 14, g 15, g 16, g 17, g 18, g 19, g 20, g 21, g 22, g 23, g 24, g 25, g 26, g 27, .int .i64 ((xs.length : Nat) : Int), .int .i64 ((i : Nat) : Int), g 30, g 31, .int .i64 ((i : Nat) : Int), .int .i64 ((j : Nat) : Int), g 34, g 35, g 36, g 37, g 38, g 39, g 40, g 41, g 42, g 43, g 44, g 45, g 46, g 47, g 48, g 49, g 50, g 51, g 52, g 53, g 54, g 55, g 56, g 57, g 58, g 59, g 60, g 61, g 62, g 63, g 64, g 65, g 66, g 67, g 68, g 69, g 70, g 71, g 72, g 73, g 74, g 75, g 76, g 77, g 78, g 79, g 80, g 81, g 82, g 83, g 84, g 85, g 86, g 87, g 88, g 89, g 90, g 91, g 92, g 93, g 94, g 95, g 96, g 97, g 98, g 99, g 100, g 101, g 102, g 103, g 104, g 105, g 106, g 107, g 108, g 109, g 110, g 111, g 112, g 113, g 114, g 115, g 116, g 117, g 118, g 119, g 120, g 121, g 122, g 123, g 124, g 125, g 126, g 127, g 128, g 129, g 130, g 131, g 132, g 133, g 134, g 135, g 136, g 137, g 138, g 139, g 140, g 141, g 142, g 143, g 144, g 145], []⟩) (fun (j : Nat) => []) (fun (j : Nat) => i - j) 0 (by (try dsimp only); exact ⟨Nat.zero_le _, fun q h1 => (by omega)⟩) (by kernel_rfl) (by first | (dsimp only; done) | ((try dsimp only); kernel_rfl)) ?_
    rintro j g5 ⟨hj, hno2⟩
    refine C_seq ?_
    refine C_region ?_
    refine S_val (.bool (decide (((j : Nat) : Int) < ((i : Nat) : Int)))) (by kernel_rfl) (fun _ _ => by kernel_rfl) ?_
    refine S_nil ?_
    refine E_then ?_
    refine C_seq ?_
    refine C_if (decide (((j : Nat) : Int) < ((i : Nat) : Int))) (by kernel_rfl) (fun hc2 => ?_) (fun hc2 => ?_)
    · replace hc2 := of_decide_eq_true hc2
      refine C_skip ?_
      refine E_then ?_
      refine C_seq ?_
      refine C_block ?_
      refine C_seq ?_
      refine C_region ?_
      refine S_val (.int .i64 ((j : Nat) : Int)) (by kernel_rfl) (fun _ _ => by kernel_rfl) ?_
      refine S_val (.int .i64 ((j : Nat) : Int)) (by kernel_rfl) (fun _ _ => by kernel_rfl) ?_
      refine S_nil ?_
      refine E_then ?_
      refine C_seq ?_
      refine C_drawn [.pure, .pure, .pure, .held, .pure, .pure, .pure, .held, .held] (by kernel_rfl) (by kernel_rfl) ?_
      refine D_val (.slice (some ⟨bi2, oi3, none⟩) xs.length cap) (by kernel_rfl) (fun _ => by kernel_rfl) ?_
      refine D_val (.int .i64 ((i : Nat) : Int)) (by kernel_rfl) (fun _ => by kernel_rfl) ?_
      refine D_val (.pointer (some ⟨bi2, oi3 + i * 1, none⟩)) (by kernel_rfl) (ixS (k := .i64) bi2 oi3 xs.length cap 1 i rfl (by kernel_rfl) (by kernel_rfl) Try.underlying69 Try.sizeOf72 (by omega)) ?_
      refine D_held (.agg #[.int .i64 (xs.getD i 0)]) (by kernel_rfl) (ldR f7_len 0 i bi2 oi3 (oi3 + i * 1) hi4 rfl (by kernel_rfl) rfl (by omega) Try.isAgg72 Try.sizeOf72) ?_
      refine D_val (.slice (some ⟨bi2, oi3, none⟩) xs.length cap) (by kernel_rfl) (fun _ => by kernel_rfl) ?_
      refine D_val (.int .i64 ((j : Nat) : Int)) (by kernel_rfl) (fun _ => by kernel_rfl) ?_
      refine D_val (.pointer (some ⟨bi2, oi3 + j * 1, none⟩)) (by kernel_rfl) (ixS (k := .i64) bi2 oi3 xs.length cap 1 j rfl (by kernel_rfl) (by kernel_rfl) Try.underlying69 Try.sizeOf72 (by omega)) ?_
      refine D_held (.agg #[.int .i64 (xs.getD j 0)]) (by kernel_rfl) (ldR f7_len 0 j bi2 oi3 (oi3 + j * 1) hi4 rfl (by kernel_rfl) rfl (by omega) Try.isAgg72 Try.sizeOf72) ?_
      refine D_pure (v := .bool (su (xs.getD i 0) (xs.getD j 0) % 7 == 0)) (by kernel_rfl) (c_same (xs.getD i 0) (xs.getD j 0)) (fun _ => by kernel_rfl) ?_
      refine D_nil ?_
      refine E_then ?_
      refine C_if (su (xs.getD i 0) (xs.getD j 0) % 7 == 0) (by kernel_rfl) (fun hs => ?_) (fun hs => ?_)
      · replace hs := eq_of_beq hs
        exact absurd ⟨i, j, by omega, by omega, hs⟩ hnd
      · replace hs := ne_of_beq_false hs
        refine C_skip ?_
        refine E_inblock ?_
        refine E_then ?_
        refine C_region ?_
        refine S_val (.int .i64 ((j + 1 : Nat) : Int)) (by kernel_rfl) (fun _ _ => fv (v := .int .i64 (IntKind.i64.wrap (((j : Nat) : Int) + 1))) (vint (w64 (by omega) (by omega) (by omega))) (by kernel_rfl)) ?_
        refine S_val (.int .i64 ((j + 1 : Nat) : Int)) (by kernel_rfl) (fun _ _ => by kernel_rfl) ?_
        refine S_nil ?_
        exact E_norm (fun w hw => ⟨j + 1, ⟨by omega, fun q h1 => (by rcases Nat.lt_succ_iff_lt_or_eq.1 h1 with h3 | h3; exact hno2 q h3; subst h3; exact hs)⟩, (by kernel_rfl), (by (try dsimp only); omega), hw⟩)
    · replace hc2 := of_decide_eq_false hc2
      refine C_exit ?_
      refine E_pass_exit ?_
      refine E_pass_exit ?_
      refine E_outblock ?_
      refine E_inblock ?_
      refine E_then ?_
      refine C_region ?_
      refine S_val (.int .i64 ((i + 1 : Nat) : Int)) (by kernel_rfl) (fun _ _ => fv (v := .int .i64 (IntKind.i64.wrap (((i : Nat) : Int) + 1))) (vint (w64 (by omega) (by omega) (by omega))) (by kernel_rfl)) ?_
      refine S_val (.int .i64 ((i + 1 : Nat) : Int)) (by kernel_rfl) (fun _ _ => by kernel_rfl) ?_
      refine S_nil ?_
      exact E_norm (fun w hw => ⟨i + 1, ⟨by omega, fun q j h1 h2 => (by rcases Nat.lt_succ_iff_lt_or_eq.1 h2 with h3 | h3; exact hno q j h1 h3; subst h3; exact hno2 j (by omega))⟩, (by kernel_rfl), (by (try dsimp only); omega), hw⟩)
  · replace hc := of_decide_eq_false hc
    obtain rfl : i = xs.length := by omega
    refine C_exit ?_
    refine E_pass_exit ?_
    refine E_pass_exit ?_
    refine E_outblock ?_
    refine E_then ?_
    refine C_seq ?_
    refine C_seq ?_
    refine C_region ?_
    refine S_val (.slice ao xs.length cap) (by kernel_rfl) (fun _ _ => by kernel_rfl) ?_
    refine S_val (.int .i64 ((xs.length : Nat) : Int)) (by kernel_rfl) (fun _ _ => by kernel_rfl) ?_
    refine S_val (.bool true) (by kernel_rfl) (fun _ _ => fv (v := .bool (((xs.length : Nat) : Int) == 0)) (vbool (beq_iff_eq.2 (by omega))) (by kernel_rfl)) ?_
    refine S_nil ?_
    refine E_then ?_
    refine C_true (by kernel_rfl) ?_
    refine C_seq ?_
    refine C_region ?_
    refine S_val (.slice none 0 0) (by kernel_rfl) (fun _ _ => by kernel_rfl) ?_
    refine S_val (.int .i64 0) (by kernel_rfl) (fun _ _ => by kernel_rfl) ?_
    refine S_nil ?_
    refine E_then ?_
    refine C_ret ?_
    refine E_pass_ret ?_
    exact pure_ret rfl (resM (rs := [.tmp 4, .tmp 5]) Try.results57 [.slice none 0 0, .int .i64 0] (by simp) (fun w hO => (.tmp (by kernel_rfl) (.tmp (by kernel_rfl) .nil))))
theorem ip_own {A A' ob ob' : List B} {rr : List (Value × List B)} {v : Value} (h : A = A') : A ++ ob ++ rr.flatMap Prod.snd ++ ob' = A' ++ ob ++ (rr ++ [(v, ob')]).flatMap Prod.snd := by
  subst h; simp [List.flatMap_append]
theorem ro_get' {n i : Nat} {rr : List (Value × List B)} (h : i < rr.length) : (ro n rr).getD i (Value.slice none 0 0) = (rr.getD i (undef, [])).1 := by
  rw [List.getD_eq_getElem?_getD, ro, List.getElem?_append_left (by simpa using h), List.getD_eq_getElem?_getD]
  simp [h]
theorem c_interp_on (w0 : World) (v u : Value) (xs ys : List Int) (hv : Rd w0 v 1 f7 xs) (hu : Rd w0 u 1 f7 ys) (hxy : ys.length = xs.length) (hl : xs.length ≤ 1000) (h0 : 0 < xs.length) (hnd : ¬ dup xs) : Gives Try.prog 57 #[v, u] w0 72 1 xs.length ((ipo xs ys xs.length).flatMap f7) (fun v => .tuple #[v, .int .i64 0]) := by
  obtain ⟨ao, cap, rfl, hx⟩ := hv.o
  obtain ⟨ao2, cap2, e2, hy⟩ := hu.o
  rw [hxy] at e2
  subst e2
  unfold Gives
  refine calls_start Try.func57 rfl ?_
  refine C_seq ?_
  refine C_region ?_
  obtain ⟨bi1, oi2, rfl, hi3⟩ := hx.op h0
  obtain ⟨bi4, oi5, rfl, hi6⟩ := hy.op (by omega)
  refine S_val (.slice none 0 0) (by kernel_rfl) (fun _ _ => by kernel_rfl) ?_
  refine S_val (.int .i64 0) (by kernel_rfl) (fun _ _ => by kernel_rfl) ?_
  refine S_nil ?_
  refine E_then ?_
  refine C_seq ?_
  refine C_seq ?_
  refine C_region ?_
  refine S_val (.slice (some ⟨bi1, oi2, none⟩) xs.length cap) (by kernel_rfl) (fun _ _ => by kernel_rfl) ?_
  refine S_val (.int .i64 ((xs.length : Nat) : Int)) (by kernel_rfl) (fun _ _ => by kernel_rfl) ?_
  refine S_val (.slice (some ⟨bi4, oi5, none⟩) xs.length cap2) (by kernel_rfl) (fun _ _ => by kernel_rfl) ?_
  refine S_val (.int .i64 ((xs.length : Nat) : Int)) (by kernel_rfl) (fun _ _ => by kernel_rfl) ?_
  refine S_val (.bool false) (by kernel_rfl) (fun _ _ => fv (v := .bool (((xs.length : Nat) : Int) != ((xs.length : Nat) : Int))) (vbool (bne_eq_false_iff_eq.2 (by omega))) (by kernel_rfl)) ?_
  refine S_nil ?_
  refine E_then ?_
  refine C_false (by kernel_rfl) ?_
  refine C_skip ?_
  refine E_then ?_
  refine C_seq ?_
  refine C_seq ?_
  refine C_region ?_
  refine S_val (.slice (some ⟨bi1, oi2, none⟩) xs.length cap) (by kernel_rfl) (fun _ _ => by kernel_rfl) ?_
  refine S_val (.int .i64 ((xs.length : Nat) : Int)) (by kernel_rfl) (fun _ _ => by kernel_rfl) ?_
  refine S_val (.int .i64 0) (by kernel_rfl) (fun _ _ => by kernel_rfl) ?_
  refine S_nil ?_
  refine E_then ?_
  refine C_block ?_
  refine C_loop1 (fun (i : Nat) => (i ≤ xs.length) ∧ (∀ q j, j < q → q < i → ¬ su (xs.getD q 0) (xs.getD j 0) % 7 = 0)) (fun (i : Nat) => fun g => ⟨#[.slice (some ⟨bi1, oi2, none⟩) xs.length cap, .slice (some ⟨bi4, oi5, none⟩) xs.length cap2, g 2, g 3, g 4, g 5, g 6, g 7, g 8, g 9, g 10, g 11, g 12, g 13, g 14, g 15, g 16, g 17, g 18, g 19, g 20, g 21, g 22, g 23, g 24, g 25, g 26, g 27, .int .i64 ((xs.length : Nat) : Int), .int .i64 ((i : Nat) : Int), g 30, g 31, g 32, g 33, g 34, g 35, g 36, g 37, g 38, g 39, g 40, g 41, g 42, g 43, g 44, g 45, g 46, g 47, g 48, g 49, g 50, g 51, g 52, g 53, g 54, g 55, g 56, g 57, g 58, g 59, g 60, g 61, g 62, g 63, g 64, g 65, g 66, g 67, g 68, g 69, g 70, g 71, g 72, g 73, g 74, g 75, g 76, g 77, g 78, g 79, g 80, g 81, g 82, g 83, g 84, g 85, g 86, g 87, g 88, g 89, g 90, g 91, g 92, g 93, g 94, g 95, g 96, g 97, g 98, g 99, g 100, g 101, g 102, g 103, g 104, g 105, g 106, g 107, g 108, g 109, g 110, g 111, g 112, g 113, g 114, g 115, g 116, g 117, g 118, g 119, g 120, g 121, g 122, g 123, g 124, g 125, g 126, g 127, g 128, g 129, g 130, g 131, g 132, g 133, g 134, g 135, g 136, g 137, g 138, g 139, g 140, g 141, g 142, g 143, g 144, g 145], []⟩) (fun (i : Nat) => []) (fun (i : Nat) => xs.length - i) 0 (by (try dsimp only); exact ⟨Nat.zero_le _, fun q j h1 h2 => (by omega)⟩) (by kernel_rfl) (by first | (dsimp only; done) | ((try dsimp only); kernel_rfl)) ?_
  rintro i g7 ⟨hi, hno⟩
  refine C_seq ?_
  refine C_region ?_
  refine S_val (.bool (decide (((i : Nat) : Int) < ((xs.length : Nat) : Int)))) (by kernel_rfl) (fun _ _ => by kernel_rfl) ?_
  refine S_nil ?_
  refine E_then ?_
  refine C_seq ?_
  refine C_if (decide (((i : Nat) : Int) < ((xs.length : Nat) : Int))) (by kernel_rfl) (fun hc => ?_) (fun hc => ?_)
  · replace hc := of_decide_eq_true hc
    refine C_skip ?_
    refine E_then ?_
    refine C_seq ?_
    refine C_block ?_
    refine C_seq ?_
    refine C_region ?_
    refine S_val (.int .i64 ((i : Nat) : Int)) (by kernel_rfl) (fun _ _ => by kernel_rfl) ?_
    refine S_val (.int .i64 ((i : Nat) : Int)) (by kernel_rfl) (fun _ _ => by kernel_rfl) ?_
    refine S_nil ?_
    refine E_then ?_
    refine C_seq ?_
    refine C_region ?_
    refine S_val (.int .i64 ((i : Nat) : Int)) (by kernel_rfl) (fun _ _ => by kernel_rfl) ?_
    refine S_val (.int .i64 0) (by kernel_rfl) (fun _ _ => by kernel_rfl) ?_
    refine S_nil ?_
    refine E_then ?_
    refine C_block ?_
    refine C_loop1 (fun (j : Nat) => (j ≤ i) ∧ (∀ q, q < j → ¬ su (xs.getD i 0) (xs.getD q 0) % 7 = 0)) (fun (j : Nat) => fun g => ⟨#[.slice (some ⟨bi1, oi2, none⟩) xs.length cap, .slice (some ⟨bi4, oi5, none⟩) xs.length cap2, g 2, g 3, g 4, g 5, .int .i64 ((i : Nat) : Int), g 7, g 8, g 9, g 10, g 11, g 12, g 13, g 14, g 15, g 16, g 17, g 18, g 19, g 20, g 21, g 22, g 23, g 24, g 25, g 26, g 27, .int .i64 ((xs.length : Nat) : Int), .int .i64 ((i : Nat) : Int), g 30, g 31, .int .i64 ((i : Nat) : Int), .int .i64 ((j : Nat) : Int), g 34, g 35, g 36, g 37, g 38, g 39, g 40, g 41, g 42, g 43, g 44, g 45, g 46, g 47, g 48, g 49, g 50, g 51, g 52, g 53, g 54, g 55, g 56, g 57, g 58, g 59, g 60, g 61, g 62, g 63, g 64, g 65, g 66, g 67, g 68, g 69, g 70, g 71, g 72, g 73, g 74, g 75, g 76, g 77, g 78, g 79, g 80, g 81, g 82, g 83, g 84, g 85, g 86, g 87, g 88, g 89, g 90, g 91, g 92, g 93, g 94, g 95, g 96, g 97, g 98, g 99, g 100, g 101, g 102, g 103, g 104, g 105, g 106, g 107, g 108, g 109, g 110, g 111, g 112, g 113, g 114, g 115, g 116, g 117, g 118, g 119, g 120, g 121, g 122, g 123, g 124, g 125, g 126, g 127, g 128, g 129, g 130, g 131, g 132, g 133, g 134, g 135, g 136, g 137, g 138, g 139, g 140, g 141, g 142, g 143, g 144, g 145], []⟩) (fun (j : Nat) => []) (fun (j : Nat) => i - j) 0 (by (try dsimp only); exact ⟨Nat.zero_le _, fun q h1 => (by omega)⟩) (by kernel_rfl) (by first | (dsimp only; done) | ((try dsimp only); kernel_rfl)) ?_
    rintro j g8 ⟨hj, hno2⟩
    refine C_seq ?_
    refine C_region ?_
    refine S_val (.bool (decide (((j : Nat) : Int) < ((i : Nat) : Int)))) (by kernel_rfl) (fun _ _ => by kernel_rfl) ?_
    refine S_nil ?_
    refine E_then ?_
    refine C_seq ?_
    refine C_if (decide (((j : Nat) : Int) < ((i : Nat) : Int))) (by kernel_rfl) (fun hc2 => ?_) (fun hc2 => ?_)
    · replace hc2 := of_decide_eq_true hc2
      refine C_skip ?_
      refine E_then ?_
      refine C_seq ?_
      refine C_block ?_
      refine C_seq ?_
      refine C_region ?_
      refine S_val (.int .i64 ((j : Nat) : Int)) (by kernel_rfl) (fun _ _ => by kernel_rfl) ?_
      refine S_val (.int .i64 ((j : Nat) : Int)) (by kernel_rfl) (fun _ _ => by kernel_rfl) ?_
      refine S_nil ?_
      refine E_then ?_
      refine C_seq ?_
      refine C_drawn [.pure, .pure, .pure, .held, .pure, .pure, .pure, .held, .held] (by kernel_rfl) (by kernel_rfl) ?_
      refine D_val (.slice (some ⟨bi1, oi2, none⟩) xs.length cap) (by kernel_rfl) (fun _ => by kernel_rfl) ?_
      refine D_val (.int .i64 ((i : Nat) : Int)) (by kernel_rfl) (fun _ => by kernel_rfl) ?_
      refine D_val (.pointer (some ⟨bi1, oi2 + i * 1, none⟩)) (by kernel_rfl) (ixS (k := .i64) bi1 oi2 xs.length cap 1 i rfl (by kernel_rfl) (by kernel_rfl) Try.underlying69 Try.sizeOf72 (by omega)) ?_
      refine D_held (.agg #[.int .i64 (xs.getD i 0)]) (by kernel_rfl) (ldR f7_len 0 i bi1 oi2 (oi2 + i * 1) hi3 rfl (by kernel_rfl) rfl (by omega) Try.isAgg72 Try.sizeOf72) ?_
      refine D_val (.slice (some ⟨bi1, oi2, none⟩) xs.length cap) (by kernel_rfl) (fun _ => by kernel_rfl) ?_
      refine D_val (.int .i64 ((j : Nat) : Int)) (by kernel_rfl) (fun _ => by kernel_rfl) ?_
      refine D_val (.pointer (some ⟨bi1, oi2 + j * 1, none⟩)) (by kernel_rfl) (ixS (k := .i64) bi1 oi2 xs.length cap 1 j rfl (by kernel_rfl) (by kernel_rfl) Try.underlying69 Try.sizeOf72 (by omega)) ?_
      refine D_held (.agg #[.int .i64 (xs.getD j 0)]) (by kernel_rfl) (ldR f7_len 0 j bi1 oi2 (oi2 + j * 1) hi3 rfl (by kernel_rfl) rfl (by omega) Try.isAgg72 Try.sizeOf72) ?_
      refine D_pure (v := .bool (su (xs.getD i 0) (xs.getD j 0) % 7 == 0)) (by kernel_rfl) (c_same (xs.getD i 0) (xs.getD j 0)) (fun _ => by kernel_rfl) ?_
      refine D_nil ?_
      refine E_then ?_
      refine C_if (su (xs.getD i 0) (xs.getD j 0) % 7 == 0) (by kernel_rfl) (fun hs => ?_) (fun hs => ?_)
      · replace hs := eq_of_beq hs
        exact absurd ⟨i, j, by omega, by omega, hs⟩ hnd
      · replace hs := ne_of_beq_false hs
        refine C_skip ?_
        refine E_inblock ?_
        refine E_then ?_
        refine C_region ?_
        refine S_val (.int .i64 ((j + 1 : Nat) : Int)) (by kernel_rfl) (fun _ _ => fv (v := .int .i64 (IntKind.i64.wrap (((j : Nat) : Int) + 1))) (vint (w64 (by omega) (by omega) (by omega))) (by kernel_rfl)) ?_
        refine S_val (.int .i64 ((j + 1 : Nat) : Int)) (by kernel_rfl) (fun _ _ => by kernel_rfl) ?_
        refine S_nil ?_
        exact E_norm (fun w hw => ⟨j + 1, ⟨by omega, fun q h1 => (by rcases Nat.lt_succ_iff_lt_or_eq.1 h1 with h3 | h3; exact hno2 q h3; subst h3; exact hs)⟩, (by kernel_rfl), (by (try dsimp only); omega), hw⟩)
    · replace hc2 := of_decide_eq_false hc2
      refine C_exit ?_
      refine E_pass_exit ?_
      refine E_pass_exit ?_
      refine E_outblock ?_
      refine E_inblock ?_
      refine E_then ?_
      refine C_region ?_
      refine S_val (.int .i64 ((i + 1 : Nat) : Int)) (by kernel_rfl) (fun _ _ => fv (v := .int .i64 (IntKind.i64.wrap (((i : Nat) : Int) + 1))) (vint (w64 (by omega) (by omega) (by omega))) (by kernel_rfl)) ?_
      refine S_val (.int .i64 ((i + 1 : Nat) : Int)) (by kernel_rfl) (fun _ _ => by kernel_rfl) ?_
      refine S_nil ?_
      exact E_norm (fun w hw => ⟨i + 1, ⟨by omega, fun q j h1 h2 => (by rcases Nat.lt_succ_iff_lt_or_eq.1 h2 with h3 | h3; exact hno q j h1 h3; subst h3; exact hno2 j (by omega))⟩, (by kernel_rfl), (by (try dsimp only); omega), hw⟩)
  · replace hc := of_decide_eq_false hc
    obtain rfl : i = xs.length := by omega
    refine C_exit ?_
    refine E_pass_exit ?_
    refine E_pass_exit ?_
    refine E_outblock ?_
    refine E_then ?_
    refine C_seq ?_
    refine C_seq ?_
    refine C_region ?_
    refine S_val (.slice (some ⟨bi1, oi2, none⟩) xs.length cap) (by kernel_rfl) (fun _ _ => by kernel_rfl) ?_
    refine S_val (.int .i64 ((xs.length : Nat) : Int)) (by kernel_rfl) (fun _ _ => by kernel_rfl) ?_
    refine S_val (.bool false) (by kernel_rfl) (fun _ _ => fv (v := .bool (((xs.length : Nat) : Int) == 0)) (vbool (beq_eq_false_iff_ne.2 (by omega))) (by kernel_rfl)) ?_
    refine S_nil ?_
    refine E_then ?_
    refine C_false (by kernel_rfl) ?_
    refine C_skip ?_
    refine E_then ?_
    refine C_seq ?_
    refine C_region ?_
    refine S_val (.slice (some ⟨bi1, oi2, none⟩) xs.length cap) (by kernel_rfl) (fun _ _ => by kernel_rfl) ?_
    refine S_val (.pointer (some ⟨bi1, oi2 + 0 * 1, none⟩)) (by kernel_rfl) (fun w _ => (ixS (k := .i64) bi1 oi2 xs.length cap 1 0 rfl (by kernel_rfl) (by kernel_rfl) Try.underlying69 Try.sizeOf72 (by omega)) w) ?_
    refine S_val (.agg #[.int .i64 (xs.getD 0 0)]) (by kernel_rfl) (ldR f7_len 0 0 bi1 oi2 (oi2 + 0 * 1) hi3 rfl (by kernel_rfl) rfl (by omega) Try.isAgg72 Try.sizeOf72) ?_
    refine S_val (.iface 72 (.agg #[.int .i64 (xs.getD 0 0)])) (by kernel_rfl) (fun _ _ => by kernel_rfl) ?_
    refine S_pure (v := .agg #[.int .i64 1]) (by kernel_rfl) (c_one (xs.getD 0 0)) (fun _ => by kernel_rfl) ?_
    refine S_newv (fun nb0 => .slice (some ⟨nb0, 0, none⟩) 1 1) [.int .i64 1] 72 (by kernel_rfl) (fun w _ => by kernel_rfl) ?_
    intro b9 hb9 Hb9
    refine S_val (.slice (some ⟨b9, 0, none⟩) 1 1) (by kernel_rfl) (fun _ _ => by kernel_rfl) ?_
    refine S_nil ?_
    refine E_then ?_
    refine C_seq ?_
    refine C_seq ?_
    refine C_region ?_
    refine S_val (.slice (some ⟨bi1, oi2, none⟩) xs.length cap) (by kernel_rfl) (fun _ _ => by kernel_rfl) ?_
    refine S_val (.int .i64 ((xs.length : Nat) : Int)) (by kernel_rfl) (fun _ _ => by kernel_rfl) ?_
    refine S_val (.int .i64 0) (by kernel_rfl) (fun _ _ => by kernel_rfl) ?_
    refine S_nil ?_
    refine E_then ?_
    refine C_block ?_
    refine C_loop3 (fun (i : Nat) (v : Value) (ob : List B) => (i ≤ xs.length) ∧ (Rw 72 1 v (i + 1) ((pol xs i).flatMap f7) ob)) (fun (i : Nat) (v : Value) (ob : List B) => fun g => ⟨#[.slice (some ⟨bi1, oi2, none⟩) xs.length cap, .slice (some ⟨bi4, oi5, none⟩) xs.length cap2, g 2, g 3, g 4, g 5, g 6, g 7, v, g 9, g 10, g 11, g 12, g 13, g 14, g 15, g 16, g 17, g 18, g 19, g 20, g 21, g 22, g 23, g 24, g 25, g 26, g 27, g 28, g 29, g 30, g 31, g 32, g 33, g 34, g 35, g 36, g 37, g 38, g 39, g 40, g 41, g 42, g 43, g 44, g 45, g 46, g 47, g 48, g 49, g 50, g 51, g 52, g 53, g 54, g 55, .slice (some ⟨bi1, oi2, none⟩) xs.length cap, .int .i64 ((xs.length : Nat) : Int), .int .i64 ((i : Nat) : Int), g 59, g 60, g 61, g 62, g 63, g 64, g 65, g 66, g 67, g 68, g 69, g 70, g 71, g 72, g 73, g 74, g 75, g 76, g 77, g 78, g 79, g 80, g 81, g 82, g 83, g 84, g 85, g 86, g 87, g 88, g 89, g 90, g 91, g 92, g 93, g 94, g 95, g 96, g 97, g 98, g 99, g 100, g 101, g 102, g 103, g 104, g 105, g 106, g 107, g 108, g 109, g 110, g 111, g 112, g 113, g 114, g 115, g 116, g 117, g 118, g 119, g 120, g 121, g 122, g 123, g 124, g 125, g 126, g 127, g 128, g 129, g 130, g 131, g 132, g 133, g 134, g 135, g 136, g 137, g 138, g 139, g 140, g 141, g 142, g 143, g 144, g 145], []⟩) (fun (i : Nat) (v : Value) (ob : List B) => [] ++ ob) (fun (i : Nat) (v : Value) (ob : List B) => xs.length - i) 0 (.slice (some ⟨b9, 0, none⟩) 1 1) [⟨b9, [.int .i64 1], 72⟩] (by (try dsimp only); exact ⟨Nat.zero_le _, (Rw.whole' f7_len b9 [1] 1 rfl (le_maxLen (by omega)))⟩) (by kernel_rfl) (by first | (dsimp only; done) | ((try dsimp only); rfl)) ?_
    rintro i v ob g10 ⟨hi, hr⟩
    obtain ⟨aoa, capa, rfl⟩ := hr.len
    refine C_seq ?_
    refine C_region ?_
    refine S_val (.bool (decide (((i : Nat) : Int) < ((xs.length : Nat) : Int)))) (by kernel_rfl) (fun _ _ => by kernel_rfl) ?_
    refine S_nil ?_
    refine E_then ?_
    refine C_seq ?_
    refine C_if (decide (((i : Nat) : Int) < ((xs.length : Nat) : Int))) (by kernel_rfl) (fun hc => ?_) (fun hc => ?_)
    · replace hc := of_decide_eq_true hc
      refine C_skip ?_
      refine E_then ?_
      refine C_seq ?_
      refine C_block ?_
      refine C_seq ?_
      refine C_region ?_
      refine S_val (.pointer (some ⟨bi1, oi2 + i * 1, none⟩)) (by kernel_rfl) (fun w _ => (ixS (k := .i64) bi1 oi2 xs.length cap 1 i rfl (by kernel_rfl) (by kernel_rfl) Try.underlying69 Try.sizeOf72 (by omega)) w) ?_
      refine S_val (.agg #[.int .i64 (xs.getD i 0)]) (by kernel_rfl) (ldR f7_len 0 i bi1 oi2 (oi2 + i * 1) hi3 rfl (by kernel_rfl) rfl (by omega) Try.isAgg72 Try.sizeOf72) ?_
      refine S_newv (fun nb0 => .pointer (some ⟨nb0, 0, none⟩)) [.int .i64 0] 72 (by kernel_rfl) (fun w _ => by kernel_rfl) ?_
      intro b11 hb11 Hb11
      refine S_do (by kernel_rfl) (stN (L' := [⟨b11, [.int .i64 (xs.getD i 0)], 72⟩] ++ ob) [.int .i64 (xs.getD i 0)] 0 b11 0 [.int .i64 0] 72 rfl (by kernel_rfl) (by kernel_rfl) Try.sizeOf72 (by simp [Value.oneCell']) (by kernel_rfl) (by simp) (by kernel_rfl)) ?_
      refine S_nil ?_
      refine E_then ?_
      refine C_seq ?_
      refine C_region ?_
      refine S_newv (fun nb0 => .pointer (some ⟨nb0, 0, none⟩)) [.int .i64 0] 72 (by kernel_rfl) (fun w _ => by kernel_rfl) ?_
      intro b12 hb12 Hb12
      refine S_nil ?_
      refine E_then ?_
      refine C_drawn [.pure, .held, .pure, .held, .held, .held, .pure, .held, .new, .giv, .pure] (by kernel_rfl) (by kernel_rfl) ?_
      refine D_val (.slice aoa (i + 1) capa) (by kernel_rfl) (fun _ => by kernel_rfl) ?_
      refine D_held (.agg #[.int .i64 0]) (by kernel_rfl) (ldN [.int .i64 0] 0 b12 0 [.int .i64 0] 72 rfl (by kernel_rfl) Try.isAgg72 Try.sizeOf72 (by kernel_rfl) (by kernel_rfl)) ?_
      refine D_val (.iface 72 (.agg #[.int .i64 0])) (by kernel_rfl) (fun _ => by kernel_rfl) ?_
      refine D_held (.agg #[.int .i64 (xs.getD i 0)]) (by kernel_rfl) (ldN [.int .i64 (xs.getD i 0)] 1 b11 0 [.int .i64 (xs.getD i 0)] 72 rfl (by kernel_rfl) Try.isAgg72 Try.sizeOf72 (by kernel_rfl) (by kernel_rfl)) ?_
      refine D_pure (v := .agg #[.int .i64 (su 0 (xs.getD i 0))]) (by kernel_rfl) (c_sub 0 (xs.getD i 0)) (fun _ => by kernel_rfl) ?_
      refine D_held (.agg #[.int .i64 (xs.getD i 0)]) (by kernel_rfl) (ldN [.int .i64 (xs.getD i 0)] 1 b11 0 [.int .i64 (xs.getD i 0)] 72 rfl (by kernel_rfl) Try.isAgg72 Try.sizeOf72 (by kernel_rfl) (by kernel_rfl)) ?_
      refine D_val (.iface 72 (.agg #[.int .i64 (xs.getD i 0)])) (by kernel_rfl) (fun _ => by kernel_rfl) ?_
      refine D_pure (v := .agg #[.int .i64 1]) (by kernel_rfl) (c_one (xs.getD i 0)) (fun _ => by kernel_rfl) ?_
      refine D_fresh (fun nb0 => .slice (some ⟨nb0, 0, none⟩) 2 2) [.int .i64 (su 0 (xs.getD i 0)), .int .i64 1] 72 (by kernel_rfl) (fun w _ => by kernel_rfl) ?_
      intro b13 hb13 Hb13
      refine D_gives (mk := fun v0 => v0) (RowOf.inh f7_len (pr7 (pol xs i) [su 0 (xs.getD i 0), 1]) (i + 1 + 1) (pol_length xs (i + 1)) (le_maxLen (by omega))) (by kernel_rfl) (fun _ _ => by kernel_rfl) (fun w hO => (c_product' w (.slice aoa (i + 1) capa) (.slice (some ⟨b13, 0, none⟩) 2 2) (pol xs i) [su 0 (xs.getD i 0), 1] i (Rw.rd' f7_len (pol_length _ _) hr hO ((List.sublist_append_right (([⟨b13, [.int .i64 (su 0 (xs.getD i 0)), .int .i64 1], 72⟩, ⟨b12, [.int .i64 0], 72⟩, ⟨b11, [.int .i64 (xs.getD i 0)], 72⟩] : List B)) ob))) ((hO.rdB' (f := f7) 0 f7_len [su 0 (xs.getD i 0), 1] rfl).o.rd 2) (pol_length _ _) rfl (by omega))) ?_
      intro v14 ob15 hr16
      obtain ⟨ao17, cap18, rfl⟩ := hr16.len
      refine D_val (.slice ao17 (i + 1 + 1) cap18) (by kernel_rfl) (fun _ => by kernel_rfl) ?_
      refine D_nil ?_
      refine E_inblock ?_
      refine E_then ?_
      refine C_region ?_
      refine S_val (.int .i64 ((i + 1 : Nat) : Int)) (by kernel_rfl) (fun _ _ => fv (v := .int .i64 (IntKind.i64.wrap (((i : Nat) : Int) + 1))) (vint (w64 (by omega) (by omega) (by omega))) (by kernel_rfl)) ?_
      refine S_val (.int .i64 ((i + 1 : Nat) : Int)) (by kernel_rfl) (fun _ _ => by kernel_rfl) ?_
      refine S_nil ?_
      exact E_norm (fun w hw => ⟨i + 1, .slice ao17 (i + 1 + 1) cap18, ob15, ⟨by omega, hr16⟩, (by kernel_rfl), (by (try dsimp only); omega), hw.sub (List.sublist_append_right _ _)⟩)
    · replace hc := of_decide_eq_false hc
      obtain rfl : i = xs.length := by omega
      refine C_exit ?_
      refine E_pass_exit ?_
      refine E_pass_exit ?_
      refine E_outblock ?_
      refine E_then ?_
      refine C_seq ?_
      refine C_region ?_
      refine S_val (.slice (some ⟨bi1, oi2, none⟩) xs.length cap) (by kernel_rfl) (fun _ _ => by kernel_rfl) ?_
      refine S_val (.int .i64 ((xs.length : Nat) : Int)) (by kernel_rfl) (fun _ _ => by kernel_rfl) ?_
      refine S_newv (fun nb0 => .slice (some ⟨nb0, 0, none⟩) xs.length xs.length) ((List.replicate xs.length (Value.slice none 0 0)).flatMap (fun u => [u])) 69 (by kernel_rfl) (mk (kl := .i64) (kc := .i64) (z := .slice none 0 0) (i := Try.t69) xs.length xs.length Try.underlying73 (by kernel_rfl) (by kernel_rfl) rfl (by kernel_rfl) (by kernel_rfl) (by omega) (by simp only [Try.t69]; omega) (by omega) ((List.replicate xs.length (Value.slice none 0 0)).flatMap (fun u => [u])) (madeF (f := (fun u => [u])) (d := (Value.slice none 0 0)) xs.length rfl)) ?_
      intro b19 hb19 Hb19
      refine S_val (.slice (some ⟨b19, 0, none⟩) xs.length xs.length) (by kernel_rfl) (fun _ _ => by kernel_rfl) ?_
      refine S_nil ?_
      refine E_then ?_
      refine C_seq ?_
      refine C_region ?_
      refine S_val (.slice (some ⟨bi1, oi2, none⟩) xs.length cap) (by kernel_rfl) (fun _ _ => by kernel_rfl) ?_
      refine S_val (.int .i64 ((xs.length : Nat) : Int)) (by kernel_rfl) (fun _ _ => by kernel_rfl) ?_
      refine S_newv (fun nb0 => .slice (some ⟨nb0, 0, none⟩) xs.length xs.length) ((List.replicate xs.length 0).flatMap f7) 72 (by kernel_rfl) (mk (kl := .i64) (kc := .i64) (z := .agg #[.int .i64 0]) (i := Try.t72) xs.length xs.length Try.underlying69 (by kernel_rfl) (by kernel_rfl) rfl (by kernel_rfl) (by kernel_rfl) (by omega) (by simp only [Try.t72]; omega) (by omega) ((List.replicate xs.length 0).flatMap f7) (madeF (f := f7) (d := 0) xs.length rfl)) ?_
      intro b20 hb20 Hb20
      refine S_val (.slice (some ⟨b20, 0, none⟩) xs.length xs.length) (by kernel_rfl) (fun _ _ => by kernel_rfl) ?_
      refine S_nil ?_
      refine E_then ?_
      refine C_seq ?_
      refine C_seq ?_
      refine C_region ?_
      refine S_val (.slice (some ⟨bi1, oi2, none⟩) xs.length cap) (by kernel_rfl) (fun _ _ => by kernel_rfl) ?_
      refine S_val (.int .i64 ((xs.length : Nat) : Int)) (by kernel_rfl) (fun _ _ => by kernel_rfl) ?_
      refine S_val (.int .i64 0) (by kernel_rfl) (fun _ _ => by kernel_rfl) ?_
      refine S_nil ?_
      refine E_then ?_
      refine C_block ?_
      refine C_loop2 (fun (k : Nat) (rr : List (Value × List B)) => (k ≤ xs.length) ∧ (rr.length = k) ∧ (RR xs.length (wl xs) rr)) (fun (k : Nat) (rr : List (Value × List B)) => fun g => ⟨#[.slice (some ⟨bi1, oi2, none⟩) xs.length cap, .slice (some ⟨bi4, oi5, none⟩) xs.length cap2, g 2, g 3, g 4, g 5, g 6, g 7, .slice aoa (xs.length + 1) capa, g 9, g 10, g 11, .slice (some ⟨b19, 0, none⟩) xs.length xs.length, .slice (some ⟨b20, 0, none⟩) xs.length xs.length, g 14, g 15, g 16, g 17, g 18, g 19, g 20, g 21, g 22, g 23, g 24, g 25, g 26, g 27, g 28, g 29, g 30, g 31, g 32, g 33, g 34, g 35, g 36, g 37, g 38, g 39, g 40, g 41, g 42, g 43, g 44, g 45, g 46, g 47, g 48, g 49, g 50, g 51, g 52, g 53, g 54, g 55, g 56, g 57, g 58, g 59, g 60, g 61, g 62, g 63, g 64, g 65, g 66, g 67, g 68, g 69, g 70, g 71, g 72, g 73, g 74, g 75, g 76, g 77, g 78, .slice (some ⟨bi1, oi2, none⟩) xs.length cap, .int .i64 ((xs.length : Nat) : Int), .int .i64 ((k : Nat) : Int), g 82, g 83, g 84, g 85, g 86, g 87, g 88, g 89, g 90, g 91, g 92, g 93, g 94, g 95, g 96, g 97, g 98, g 99, g 100, g 101, g 102, g 103, g 104, g 105, g 106, g 107, g 108, g 109, g 110, g 111, g 112, g 113, g 114, g 115, g 116, g 117, g 118, g 119, g 120, g 121, g 122, g 123, g 124, g 125, g 126, g 127, g 128, g 129, g 130, g 131, g 132, g 133, g 134, g 135, g 136, g 137, g 138, g 139, g 140, g 141, g 142, g 143, g 144, g 145], []⟩) (fun (k : Nat) (rr : List (Value × List B)) => [⟨b20, ((atl xs k).flatMap f7), 72⟩, ⟨b19, ((ro xs.length rr).flatMap (fun u => [u])), 69⟩] ++ ob ++ rr.flatMap Prod.snd) (fun (k : Nat) (rr : List (Value × List B)) => xs.length - k) 0 [] (by (try dsimp only); exact ⟨Nat.zero_le _, rfl, RR.nil _ _⟩) (by kernel_rfl) (by first | (dsimp only; done) | ((try dsimp only); simp [ro, atl])) ?_
      rintro k rr g21 ⟨hk, hrk, hRR⟩
      refine C_seq ?_
      refine C_region ?_
      refine S_val (.bool (decide (((k : Nat) : Int) < ((xs.length : Nat) : Int)))) (by kernel_rfl) (fun _ _ => by kernel_rfl) ?_
      refine S_nil ?_
      refine E_then ?_
      refine C_seq ?_
      refine C_if (decide (((k : Nat) : Int) < ((xs.length : Nat) : Int))) (by kernel_rfl) (fun hc => ?_) (fun hc => ?_)
      · replace hc := of_decide_eq_true hc
        refine C_skip ?_
        refine E_then ?_
        refine C_seq ?_
        refine C_block ?_
        refine C_seq ?_
        refine C_region ?_
        refine S_val (.int .i64 ((k : Nat) : Int)) (by kernel_rfl) (fun _ _ => by kernel_rfl) ?_
        refine S_val (.pointer (some ⟨bi1, oi2 + k * 1, none⟩)) (by kernel_rfl) (fun w _ => (ixS (k := .i64) bi1 oi2 xs.length cap 1 k rfl (by kernel_rfl) (by kernel_rfl) Try.underlying69 Try.sizeOf72 (by omega)) w) ?_
        refine S_val (.agg #[.int .i64 (xs.getD k 0)]) (by kernel_rfl) (ldR f7_len 0 k bi1 oi2 (oi2 + k * 1) hi3 rfl (by kernel_rfl) rfl (by omega) Try.isAgg72 Try.sizeOf72) ?_
        refine S_newv (fun nb0 => .pointer (some ⟨nb0, 0, none⟩)) [.int .i64 0] 72 (by kernel_rfl) (fun w _ => by kernel_rfl) ?_
        intro b22 hb22 Hb22
        refine S_val (.int .i64 ((k : Nat) : Int)) (by kernel_rfl) (fun _ _ => by kernel_rfl) ?_
        refine S_do (by kernel_rfl) (stN (L' := [⟨b22, [.int .i64 (xs.getD k 0)], 72⟩, ⟨b20, ((atl xs k).flatMap f7), 72⟩, ⟨b19, ((ro xs.length rr).flatMap (fun u => [u])), 69⟩] ++ ob ++ rr.flatMap Prod.snd) [.int .i64 (xs.getD k 0)] 0 b22 0 [.int .i64 0] 72 rfl (by kernel_rfl) (by kernel_rfl) Try.sizeOf72 (by simp [Value.oneCell']) (by kernel_rfl) (by simp) (by kernel_rfl)) ?_
        refine S_nil ?_
        refine E_then ?_
        refine C_seq ?_
        refine C_region ?_
        refine S_val (.slice (some ⟨b19, 0, none⟩) xs.length xs.length) (by kernel_rfl) (fun _ _ => by kernel_rfl) ?_
        refine S_val (.int .i64 ((k : Nat) : Int)) (by kernel_rfl) (fun _ _ => by kernel_rfl) ?_
        refine S_val (.slice aoa (xs.length + 1) capa) (by kernel_rfl) (fun _ _ => by kernel_rfl) ?_
        refine S_val (.agg #[.int .i64 (xs.getD k 0)]) (by kernel_rfl) (ldN [.int .i64 (xs.getD k 0)] 0 b22 0 [.int .i64 (xs.getD k 0)] 72 rfl (by kernel_rfl) Try.isAgg72 Try.sizeOf72 (by kernel_rfl) (by kernel_rfl)) ?_
        refine S_gives (mk := fun v0 => v0) (by kernel_rfl) (fun _ _ => by kernel_rfl) (fun w hO => (c_without' w (.slice aoa (xs.length + 1) capa) (pol xs xs.length) (xs.getD k 0) xs.length (Rw.rd' f7_len (pol_length _ _) hr hO (((List.sublist_append_right (([⟨b22, [.int .i64 (xs.getD k 0)], 72⟩, ⟨b20, ((atl xs k).flatMap f7), 72⟩, ⟨b19, ((ro xs.length rr).flatMap (fun u => [u])), 69⟩] : List B)) ob).trans (List.sublist_append_left (([⟨b22, [.int .i64 (xs.getD k 0)], 72⟩, ⟨b20, ((atl xs k).flatMap f7), 72⟩, ⟨b19, ((ro xs.length rr).flatMap (fun u => [u])), 69⟩] : List B) ++ ob) (rr.flatMap Prod.snd))))) (pol_length _ _) (by omega))) ?_
        intro v23 ob24 hr25
        obtain ⟨ao26, cap27, rfl⟩ := hr25.len
        refine S_val (.pointer (some ⟨b19, 0 + k * 1, none⟩)) (by kernel_rfl) (fun w _ => (ixS (k := .i64) b19 0 xs.length xs.length 1 k rfl (by kernel_rfl) (by kernel_rfl) Try.underlying73 Try.sizeOf69 (by omega)) w) ?_
        refine S_do (by kernel_rfl) (stF1 (f := (fun u => [u])) (L' := [⟨b22, [.int .i64 (xs.getD k 0)], 72⟩, ⟨b20, ((atl xs k).flatMap f7), 72⟩, ⟨b19, (((ro xs.length rr).set k (.slice ao26 xs.length cap27)).flatMap (fun u => [u])), 69⟩] ++ ob ++ rr.flatMap Prod.snd ++ ob24) (fun _ => rfl) rfl (ro xs.length rr) (.slice ao26 xs.length cap27) k (0 + k * 1) 2 b19 69 rfl (by kernel_rfl) (by kernel_rfl) rfl (by omega) (by rw [ro_length (by omega)]; omega) Try.sizeOf69 (by kernel_rfl) (by kernel_rfl)) ?_
        refine S_nil ?_
        refine E_then ?_
        refine C_drawn [.pure, .pure, .pure, .pure, .pure, .held, .held, .held, .pure, .eff] (by kernel_rfl) (by kernel_rfl) ?_
        refine D_val (.slice (some ⟨b20, 0, none⟩) xs.length xs.length) (by kernel_rfl) (fun _ => by kernel_rfl) ?_
        refine D_val (.int .i64 ((k : Nat) : Int)) (by kernel_rfl) (fun _ => by kernel_rfl) ?_
        refine D_val (.slice (some ⟨b19, 0, none⟩) xs.length xs.length) (by kernel_rfl) (fun _ => by kernel_rfl) ?_
        refine D_val (.int .i64 ((k : Nat) : Int)) (by kernel_rfl) (fun _ => by kernel_rfl) ?_
        refine D_val (.pointer (some ⟨b19, 0 + k * 1, none⟩)) (by kernel_rfl) (ixS (k := .i64) b19 0 xs.length xs.length 1 k rfl (by kernel_rfl) (by kernel_rfl) Try.underlying73 Try.sizeOf69 (by omega)) ?_
        refine D_held (.slice ao26 xs.length cap27) (by kernel_rfl) (fun w hO => fv (v := ((ro xs.length rr).set k (.slice ao26 xs.length cap27)).getD k (Value.slice none 0 0)) (gset_eq _ _ (by rw [ro_length (by omega)]; omega)) (ldF1 (f := fun u => [u]) (v := ((ro xs.length rr).set k (.slice ao26 xs.length cap27)).getD k (Value.slice none 0 0)) (fun _ => rfl) ((ro xs.length rr).set k (.slice ao26 xs.length cap27)) (Value.slice none 0 0) k (0 + k * 1) 2 b19 69 rfl (by kernel_rfl) (by omega) (by rw [List.length_set, ro_length (by omega)]; omega) rfl Try.isAgg69 (by kernel_rfl) w hO)) ?_
        refine D_held (.agg #[.int .i64 (xs.getD k 0)]) (by kernel_rfl) (ldN [.int .i64 (xs.getD k 0)] 0 b22 0 [.int .i64 (xs.getD k 0)] 72 rfl (by kernel_rfl) Try.isAgg72 Try.sizeOf72 (by kernel_rfl) (by kernel_rfl)) ?_
        refine D_call (.agg #[.int .i64 (ev7 (wl xs k) (xs.getD k 0))]) (by kernel_rfl) (fun _ _ => by kernel_rfl) (fun w hO => (c_eval w (.slice ao26 xs.length cap27) (wl xs k) (xs.getD k 0) (Rw.rd' f7_len (wl_length _ _) hr25 hO ((List.sublist_append_right (([⟨b22, [.int .i64 (xs.getD k 0)], 72⟩, ⟨b20, ((atl xs k).flatMap f7), 72⟩, ⟨b19, (((ro xs.length rr).set k (.slice ao26 xs.length cap27)).flatMap (fun u => [u])), 69⟩] : List B) ++ ob ++ rr.flatMap Prod.snd) ob24))) (by rw [wl_length]; omega))) ?_
        refine D_val (.pointer (some ⟨b20, 0 + k * 1, none⟩)) (by kernel_rfl) (ixS (k := .i64) b20 0 xs.length xs.length 1 k rfl (by kernel_rfl) (by kernel_rfl) Try.underlying69 Try.sizeOf72 (by omega)) ?_
        refine D_do (by kernel_rfl) (stF (L' := [⟨b22, [.int .i64 (xs.getD k 0)], 72⟩, ⟨b20, (((atl xs k).set k (ev7 (wl xs k) (xs.getD k 0))).flatMap f7), 72⟩, ⟨b19, (((ro xs.length rr).set k (.slice ao26 xs.length cap27)).flatMap (fun u => [u])), 69⟩] ++ ob ++ rr.flatMap Prod.snd ++ ob24) f7_len f7_one (atl xs k) (ev7 (wl xs k) (xs.getD k 0)) k (0 + k * 1) 1 b20 72 rfl (by kernel_rfl) (by kernel_rfl) (by omega) (by rw [atl_length]; omega) Try.sizeOf72 (by kernel_rfl) (by kernel_rfl)) ?_
        refine D_nil ?_
        refine E_inblock ?_
        refine E_then ?_
        refine C_region ?_
        refine S_val (.int .i64 ((k + 1 : Nat) : Int)) (by kernel_rfl) (fun _ _ => fv (v := .int .i64 (IntKind.i64.wrap (((k : Nat) : Int) + 1))) (vint (w64 (by omega) (by omega) (by omega))) (by kernel_rfl)) ?_
        refine S_val (.int .i64 ((k + 1 : Nat) : Int)) (by kernel_rfl) (fun _ _ => by kernel_rfl) ?_
        refine S_nil ?_
        exact E_norm (fun w hw => ⟨k + 1, rr ++ [(.slice ao26 xs.length cap27, ob24)], ⟨by omega, by simp [hrk], hRR.snoc (by rw [hrk]; exact hr25)⟩, (by kernel_rfl), (by (try dsimp only); omega), (show Own w0 (([⟨b20, (((atl xs k).set k (ev7 (wl xs k) (xs.getD k 0))).flatMap f7), 72⟩, ⟨b19, (((ro xs.length rr).set k (.slice ao26 xs.length cap27)).flatMap (fun u => [u])), 69⟩] : List B) ++ ob ++ rr.flatMap Prod.snd ++ ob24) w from hw.tail).eq (ip_own (by subst hrk; rw [← ro_set _ (by omega)]; rfl))⟩)
      · replace hc := of_decide_eq_false hc
        obtain rfl : k = xs.length := by omega
        refine C_exit ?_
        refine E_pass_exit ?_
        refine E_pass_exit ?_
        refine E_outblock ?_
        refine E_then ?_
        refine C_seq ?_
        refine C_region ?_
        refine S_val (.slice (some ⟨bi1, oi2, none⟩) xs.length cap) (by kernel_rfl) (fun _ _ => by kernel_rfl) ?_
        refine S_val (.int .i64 ((xs.length : Nat) : Int)) (by kernel_rfl) (fun _ _ => by kernel_rfl) ?_
        refine S_newv (fun nb0 => .slice (some ⟨nb0, 0, none⟩) xs.length xs.length) ((List.replicate xs.length 0).flatMap f7) 72 (by kernel_rfl) (mk (kl := .i64) (kc := .i64) (z := .agg #[.int .i64 0]) (i := Try.t72) xs.length xs.length Try.underlying69 (by kernel_rfl) (by kernel_rfl) rfl (by kernel_rfl) (by kernel_rfl) (by omega) (by simp only [Try.t72]; omega) (by omega) ((List.replicate xs.length 0).flatMap f7) (madeF (f := f7) (d := 0) xs.length rfl)) ?_
        intro b28 hb28 Hb28
        refine S_val (.slice (some ⟨b28, 0, none⟩) xs.length xs.length) (by kernel_rfl) (fun _ _ => by kernel_rfl) ?_
        refine S_nil ?_
        refine E_then ?_
        refine C_seq ?_
        refine C_seq ?_
        refine C_region ?_
        refine S_val (.slice (some ⟨b20, 0, none⟩) xs.length xs.length) (by kernel_rfl) (fun _ _ => by kernel_rfl) ?_
        refine S_gives (mk := fun v0 => v0) (by kernel_rfl) (fun _ _ => by kernel_rfl) (fun w hO => (c_invall' w (.slice (some ⟨b20, 0, none⟩) xs.length xs.length) (atl xs xs.length) xs.length (by have h9 := (hO.rdB' 1 f7_len (atl xs xs.length) rfl).o.rd xs.length; rw [atl_length] at h9; exact h9) (atl_length _ _) h0 (by omega))) ?_
        intro v29 ob30 hr31
        obtain ⟨ao32, cap33, rfl⟩ := hr31.len
        refine S_val (.int .i64 ((xs.length : Nat) : Int)) (by kernel_rfl) (fun _ _ => by kernel_rfl) ?_
        refine S_val (.int .i64 0) (by kernel_rfl) (fun _ _ => by kernel_rfl) ?_
        refine S_nil ?_
        obtain ⟨g34, cap35, sp36, eg34, _⟩ := Rw.op' (ivl_length _) hr31 h0
        cases eg34
        refine E_then ?_
        refine C_block ?_
        refine C_loop1 (fun (i : Nat) => (i ≤ xs.length)) (fun (i : Nat) => fun g => ⟨#[g 0, .slice (some ⟨bi4, oi5, none⟩) xs.length cap2, g 2, g 3, g 4, g 5, g 6, g 7, g 8, g 9, g 10, g 11, .slice (some ⟨b19, 0, none⟩) xs.length xs.length, g 13, g 14, g 15, .slice (some ⟨b28, 0, none⟩) xs.length xs.length, g 17, g 18, g 19, g 20, g 21, g 22, g 23, g 24, g 25, g 26, g 27, g 28, g 29, g 30, g 31, g 32, g 33, g 34, g 35, g 36, g 37, g 38, g 39, g 40, g 41, g 42, g 43, g 44, g 45, g 46, g 47, g 48, g 49, g 50, g 51, g 52, g 53, g 54, g 55, g 56, g 57, g 58, g 59, g 60, g 61, g 62, g 63, g 64, g 65, g 66, g 67, g 68, g 69, g 70, g 71, g 72, g 73, g 74, g 75, g 76, g 77, g 78, g 79, g 80, g 81, g 82, g 83, g 84, g 85, g 86, g 87, g 88, g 89, g 90, g 91, g 92, g 93, g 94, g 95, g 96, g 97, g 98, g 99, g 100, g 101, g 102, g 103, g 104, g 105, .slice (some ⟨g34, 0, none⟩) xs.length cap33, .int .i64 ((xs.length : Nat) : Int), .int .i64 ((i : Nat) : Int), g 109, g 110, g 111, g 112, g 113, g 114, g 115, g 116, g 117, g 118, g 119, g 120, g 121, g 122, g 123, g 124, g 125, g 126, g 127, g 128, g 129, g 130, g 131, g 132, g 133, g 134, g 135, g 136, g 137, g 138, g 139, g 140, g 141, g 142, g 143, g 144, g 145], []⟩) (fun (i : Nat) => [⟨b28, ((ipo xs ys i).flatMap f7), 72⟩, ⟨b20, ((atl xs xs.length).flatMap f7), 72⟩, ⟨b19, ((ro xs.length rr).flatMap (fun u => [u])), 69⟩] ++ ob ++ rr.flatMap Prod.snd ++ ob30) (fun (i : Nat) => xs.length - i) 0 (by (try dsimp only); exact Nat.zero_le _) (by kernel_rfl) (by first | (dsimp only; done) | ((try dsimp only); kernel_rfl)) ?_
        rintro i g37 hi
        refine C_seq ?_
        refine C_region ?_
        refine S_val (.bool (decide (((i : Nat) : Int) < ((xs.length : Nat) : Int)))) (by kernel_rfl) (fun _ _ => by kernel_rfl) ?_
        refine S_nil ?_
        refine E_then ?_
        refine C_seq ?_
        refine C_if (decide (((i : Nat) : Int) < ((xs.length : Nat) : Int))) (by kernel_rfl) (fun hc => ?_) (fun hc => ?_)
        · replace hc := of_decide_eq_true hc
          obtain ⟨gi, capi, spi, ei, hobi, _⟩ := Rw.op' (wl_length xs i) (hRR i (by omega)) h0
          refine C_skip ?_
          refine E_then ?_
          refine C_seq ?_
          refine C_block ?_
          refine C_seq ?_
          refine C_region ?_
          refine S_val (.int .i64 ((i : Nat) : Int)) (by kernel_rfl) (fun _ _ => by kernel_rfl) ?_
          refine S_val (.pointer (some ⟨g34, 0 + i * 1, none⟩)) (by kernel_rfl) (fun w _ => (ixS (k := .i64) g34 0 xs.length cap33 1 i rfl (by kernel_rfl) (by kernel_rfl) Try.underlying69 Try.sizeOf72 (by omega)) w) ?_
          refine S_val (.agg #[.int .i64 ((ivl xs).getD i 0)]) (by kernel_rfl) (ldW f7_len 0 i g34 0 (0 + i * 1) (fun w hO => Rd.rdB (cap := cap33) (len := xs.length) (Rw.rd' f7_len (ivl_length _) hr31 hO ((List.sublist_append_right (([⟨b28, ((ipo xs ys i).flatMap f7), 72⟩, ⟨b20, ((atl xs xs.length).flatMap f7), 72⟩, ⟨b19, ((ro xs.length rr).flatMap (fun u => [u])), 69⟩] : List B) ++ ob ++ rr.flatMap Prod.snd) ob30)))) rfl (by kernel_rfl) rfl (by rw [ivl_length]; omega) Try.isAgg72 Try.sizeOf72) ?_
          refine S_newv (fun nb0 => .pointer (some ⟨nb0, 0, none⟩)) [.int .i64 0] 72 (by kernel_rfl) (fun w _ => by kernel_rfl) ?_
          intro b38 hb38 Hb38
          refine S_val (.int .i64 ((i : Nat) : Int)) (by kernel_rfl) (fun _ _ => by kernel_rfl) ?_
          refine S_do (by kernel_rfl) (stN (L' := [⟨b38, [.int .i64 ((ivl xs).getD i 0)], 72⟩, ⟨b28, ((ipo xs ys i).flatMap f7), 72⟩, ⟨b20, ((atl xs xs.length).flatMap f7), 72⟩, ⟨b19, ((ro xs.length rr).flatMap (fun u => [u])), 69⟩] ++ ob ++ rr.flatMap Prod.snd ++ ob30) [.int .i64 ((ivl xs).getD i 0)] 0 b38 0 [.int .i64 0] 72 rfl (by kernel_rfl) (by kernel_rfl) Try.sizeOf72 (by simp [Value.oneCell']) (by kernel_rfl) (by simp) (by kernel_rfl)) ?_
          refine S_nil ?_
          refine E_then ?_
          refine C_seq ?_
          refine C_drawn [.pure, .pure, .pure, .held, .pure, .held, .held, .new, .eff] (by kernel_rfl) (by kernel_rfl) ?_
          refine D_val (.slice (some ⟨bi4, oi5, none⟩) xs.length cap2) (by kernel_rfl) (fun _ => by kernel_rfl) ?_
          refine D_val (.int .i64 ((i : Nat) : Int)) (by kernel_rfl) (fun _ => by kernel_rfl) ?_
          refine D_val (.pointer (some ⟨bi4, oi5 + i * 1, none⟩)) (by kernel_rfl) (ixS (k := .i64) bi4 oi5 xs.length cap2 1 i rfl (by kernel_rfl) (by kernel_rfl) Try.underlying69 Try.sizeOf72 (by omega)) ?_
          refine D_held (.agg #[.int .i64 (ys.getD i 0)]) (by kernel_rfl) (ldR f7_len 0 i bi4 oi5 (oi5 + i * 1) hi6 rfl (by kernel_rfl) rfl (by omega) Try.isAgg72 Try.sizeOf72) ?_
          refine D_val (.iface 72 (.agg #[.int .i64 (ys.getD i 0)])) (by kernel_rfl) (fun _ => by kernel_rfl) ?_
          refine D_held (.agg #[.int .i64 ((ivl xs).getD i 0)]) (by kernel_rfl) (ldN [.int .i64 ((ivl xs).getD i 0)] 0 b38 0 [.int .i64 ((ivl xs).getD i 0)] 72 rfl (by kernel_rfl) Try.isAgg72 Try.sizeOf72 (by kernel_rfl) (by kernel_rfl)) ?_
          refine D_pure (v := .agg #[.int .i64 (mu (ys.getD i 0) ((ivl xs).getD i 0))]) (by kernel_rfl) (c_mul (ys.getD i 0) ((ivl xs).getD i 0)) (fun _ => by kernel_rfl) ?_
          refine D_fresh (fun nb0 => .pointer (some ⟨nb0, 0, none⟩)) [.int .i64 0] 72 (by kernel_rfl) (fun w _ => by kernel_rfl) ?_
          intro b39 hb39 Hb39
          refine D_do (by kernel_rfl) (stN (L' := [⟨b39, [.int .i64 (mu (ys.getD i 0) ((ivl xs).getD i 0))], 72⟩, ⟨b38, [.int .i64 ((ivl xs).getD i 0)], 72⟩, ⟨b28, ((ipo xs ys i).flatMap f7), 72⟩, ⟨b20, ((atl xs xs.length).flatMap f7), 72⟩, ⟨b19, ((ro xs.length rr).flatMap (fun u => [u])), 69⟩] ++ ob ++ rr.flatMap Prod.snd ++ ob30) [.int .i64 (mu (ys.getD i 0) ((ivl xs).getD i 0))] 0 b39 0 [.int .i64 0] 72 rfl (by kernel_rfl) (by kernel_rfl) Try.sizeOf72 (by simp [Value.oneCell']) (by kernel_rfl) (by simp) (by kernel_rfl)) ?_
          refine D_nil ?_
          refine E_then ?_
          refine C_seq ?_
          refine C_region ?_
          refine S_val (.slice (some ⟨b19, 0, none⟩) xs.length xs.length) (by kernel_rfl) (fun _ _ => by kernel_rfl) ?_
          refine S_val (.int .i64 ((i : Nat) : Int)) (by kernel_rfl) (fun _ _ => by kernel_rfl) ?_
          refine S_val (.pointer (some ⟨b19, 0 + i * 1, none⟩)) (by kernel_rfl) (fun w _ => (ixS (k := .i64) b19 0 xs.length xs.length 1 i rfl (by kernel_rfl) (by kernel_rfl) Try.underlying73 Try.sizeOf69 (by omega)) w) ?_
          refine S_val (.slice (some ⟨gi, 0, none⟩) xs.length capi) (by kernel_rfl) (fun w hO => fv (v := (ro xs.length rr).getD i (Value.slice none 0 0)) ((ro_get' (by omega)).trans ei) (ldF1 (f := fun u => [u]) (v := (ro xs.length rr).getD i (Value.slice none 0 0)) (fun _ => rfl) (ro xs.length rr) (Value.slice none 0 0) i (0 + i * 1) 4 b19 69 rfl (by kernel_rfl) (by omega) (by rw [ro_length (by omega)]; omega) rfl Try.isAgg69 (by kernel_rfl) w hO)) ?_
          refine S_val (.int .i64 ((xs.length : Nat) : Int)) (by kernel_rfl) (fun _ _ => by kernel_rfl) ?_
          refine S_val (.int .i64 0) (by kernel_rfl) (fun _ _ => by kernel_rfl) ?_
          refine S_nil ?_
          refine E_then ?_
          refine C_block ?_
          refine C_loop1 (fun (k : Nat) => (k ≤ xs.length)) (fun (k : Nat) => fun g => ⟨#[g 0, .slice (some ⟨bi4, oi5, none⟩) xs.length cap2, g 2, g 3, g 4, g 5, g 6, g 7, g 8, g 9, g 10, g 11, .slice (some ⟨b19, 0, none⟩) xs.length xs.length, g 13, g 14, g 15, .slice (some ⟨b28, 0, none⟩) xs.length xs.length, g 17, g 18, .pointer (some ⟨b39, 0, none⟩), g 20, g 21, g 22, g 23, g 24, g 25, g 26, g 27, g 28, g 29, g 30, g 31, g 32, g 33, g 34, g 35, g 36, g 37, g 38, g 39, g 40, g 41, g 42, g 43, g 44, g 45, g 46, g 47, g 48, g 49, g 50, g 51, g 52, g 53, g 54, g 55, g 56, g 57, g 58, g 59, g 60, g 61, g 62, g 63, g 64, g 65, g 66, g 67, g 68, g 69, g 70, g 71, g 72, g 73, g 74, g 75, g 76, g 77, g 78, g 79, g 80, g 81, g 82, g 83, g 84, g 85, g 86, g 87, g 88, g 89, g 90, g 91, g 92, g 93, g 94, g 95, g 96, g 97, g 98, g 99, g 100, g 101, g 102, g 103, g 104, g 105, .slice (some ⟨g34, 0, none⟩) xs.length cap33, .int .i64 ((xs.length : Nat) : Int), .int .i64 ((i : Nat) : Int), g 109, g 110, g 111, g 112, g 113, g 114, g 115, g 116, g 117, g 118, g 119, g 120, g 121, g 122, .slice (some ⟨gi, 0, none⟩) xs.length capi, .int .i64 ((xs.length : Nat) : Int), .int .i64 ((k : Nat) : Int), g 126, g 127, g 128, g 129, g 130, g 131, g 132, g 133, g 134, g 135, g 136, g 137, g 138, g 139, g 140, g 141, g 142, g 143, g 144, g 145], []⟩) (fun (k : Nat) => [⟨b39, [.int .i64 (mu (ys.getD i 0) ((ivl xs).getD i 0))], 72⟩, ⟨b38, [.int .i64 ((ivl xs).getD i 0)], 72⟩, ⟨b28, ((adr (wl xs i) (mu (ys.getD i 0) ((ivl xs).getD i 0)) (ipo xs ys i) k).flatMap f7), 72⟩, ⟨b20, ((atl xs xs.length).flatMap f7), 72⟩, ⟨b19, ((ro xs.length rr).flatMap (fun u => [u])), 69⟩] ++ ob ++ rr.flatMap Prod.snd ++ ob30) (fun (k : Nat) => xs.length - k) 0 (by (try dsimp only); exact Nat.zero_le _) (by kernel_rfl) (by first | (dsimp only; done) | ((try dsimp only); kernel_rfl)) ?_
          rintro k g40 hk
          refine C_seq ?_
          refine C_region ?_
          refine S_val (.bool (decide (((k : Nat) : Int) < ((xs.length : Nat) : Int)))) (by kernel_rfl) (fun _ _ => by kernel_rfl) ?_
          refine S_nil ?_
          refine E_then ?_
          refine C_seq ?_
          refine C_if (decide (((k : Nat) : Int) < ((xs.length : Nat) : Int))) (by kernel_rfl) (fun hc => ?_) (fun hc => ?_)
          · replace hc := of_decide_eq_true hc
            refine C_skip ?_
            refine E_then ?_
            refine C_seq ?_
            refine C_block ?_
            refine C_seq ?_
            refine C_region ?_
            refine S_val (.int .i64 ((k : Nat) : Int)) (by kernel_rfl) (fun _ _ => by kernel_rfl) ?_
            refine S_val (.pointer (some ⟨gi, 0 + k * 1, none⟩)) (by kernel_rfl) (fun w _ => (ixS (k := .i64) gi 0 xs.length capi 1 k rfl (by kernel_rfl) (by kernel_rfl) Try.underlying69 Try.sizeOf72 (by omega)) w) ?_
            refine S_val (.agg #[.int .i64 ((wl xs i).getD k 0)]) (by kernel_rfl) (ldW f7_len 0 k gi 0 (0 + k * 1) (fun w hO => Rd.rdB (cap := capi) (len := xs.length) (Rw.rd' f7_len (wl_length _ _) (ei ▸ hRR i (by omega)) hO ((((rr_sub (q := i) (by omega)).trans (List.sublist_append_right (([⟨b39, [.int .i64 (mu (ys.getD i 0) ((ivl xs).getD i 0))], 72⟩, ⟨b38, [.int .i64 ((ivl xs).getD i 0)], 72⟩, ⟨b28, ((adr (wl xs i) (mu (ys.getD i 0) ((ivl xs).getD i 0)) (ipo xs ys i) k).flatMap f7), 72⟩, ⟨b20, ((atl xs xs.length).flatMap f7), 72⟩, ⟨b19, ((ro xs.length rr).flatMap (fun u => [u])), 69⟩] : List B) ++ ob) (rr.flatMap Prod.snd))).trans (List.sublist_append_left (([⟨b39, [.int .i64 (mu (ys.getD i 0) ((ivl xs).getD i 0))], 72⟩, ⟨b38, [.int .i64 ((ivl xs).getD i 0)], 72⟩, ⟨b28, ((adr (wl xs i) (mu (ys.getD i 0) ((ivl xs).getD i 0)) (ipo xs ys i) k).flatMap f7), 72⟩, ⟨b20, ((atl xs xs.length).flatMap f7), 72⟩, ⟨b19, ((ro xs.length rr).flatMap (fun u => [u])), 69⟩] : List B) ++ ob ++ rr.flatMap Prod.snd) ob30))))) rfl (by kernel_rfl) rfl (by rw [wl_length]; omega) Try.isAgg72 Try.sizeOf72) ?_
            refine S_newv (fun nb0 => .pointer (some ⟨nb0, 0, none⟩)) [.int .i64 0] 72 (by kernel_rfl) (fun w _ => by kernel_rfl) ?_
            intro b41 hb41 Hb41
            refine S_val (.int .i64 ((k : Nat) : Int)) (by kernel_rfl) (fun _ _ => by kernel_rfl) ?_
            refine S_do (by kernel_rfl) (stN (L' := [⟨b41, [.int .i64 ((wl xs i).getD k 0)], 72⟩, ⟨b39, [.int .i64 (mu (ys.getD i 0) ((ivl xs).getD i 0))], 72⟩, ⟨b38, [.int .i64 ((ivl xs).getD i 0)], 72⟩, ⟨b28, ((adr (wl xs i) (mu (ys.getD i 0) ((ivl xs).getD i 0)) (ipo xs ys i) k).flatMap f7), 72⟩, ⟨b20, ((atl xs xs.length).flatMap f7), 72⟩, ⟨b19, ((ro xs.length rr).flatMap (fun u => [u])), 69⟩] ++ ob ++ rr.flatMap Prod.snd ++ ob30) [.int .i64 ((wl xs i).getD k 0)] 0 b41 0 [.int .i64 0] 72 rfl (by kernel_rfl) (by kernel_rfl) Try.sizeOf72 (by simp [Value.oneCell']) (by kernel_rfl) (by simp) (by kernel_rfl)) ?_
            refine S_nil ?_
            refine E_then ?_
            refine C_drawn [.pure, .pure, .pure, .pure, .pure, .held, .pure, .held, .pure, .held, .held, .held, .pure, .eff] (by kernel_rfl) (by kernel_rfl) ?_
            refine D_val (.slice (some ⟨b28, 0, none⟩) xs.length xs.length) (by kernel_rfl) (fun _ => by kernel_rfl) ?_
            refine D_val (.int .i64 ((k : Nat) : Int)) (by kernel_rfl) (fun _ => by kernel_rfl) ?_
            refine D_val (.slice (some ⟨b28, 0, none⟩) xs.length xs.length) (by kernel_rfl) (fun _ => by kernel_rfl) ?_
            refine D_val (.int .i64 ((k : Nat) : Int)) (by kernel_rfl) (fun _ => by kernel_rfl) ?_
            refine D_val (.pointer (some ⟨b28, 0 + k * 1, none⟩)) (by kernel_rfl) (ixS (k := .i64) b28 0 xs.length xs.length 1 k rfl (by kernel_rfl) (by kernel_rfl) Try.underlying69 Try.sizeOf72 (by omega)) ?_
            refine D_held (.agg #[.int .i64 ((adr (wl xs i) (mu (ys.getD i 0) ((ivl xs).getD i 0)) (ipo xs ys i) k).getD k 0)]) (by kernel_rfl) (ldF f7_len (adr (wl xs i) (mu (ys.getD i 0) ((ivl xs).getD i 0)) (ipo xs ys i) k) 0 k (0 + k * 1) 3 b28 72 rfl (by kernel_rfl) (by omega) (by rw [adr_length, ipo_length]; omega) Try.isAgg72 Try.sizeOf72 (by kernel_rfl)) ?_
            refine D_val (.iface 72 (.agg #[.int .i64 ((adr (wl xs i) (mu (ys.getD i 0) ((ivl xs).getD i 0)) (ipo xs ys i) k).getD k 0)])) (by kernel_rfl) (fun _ => by kernel_rfl) ?_
            refine D_held (.agg #[.int .i64 (mu (ys.getD i 0) ((ivl xs).getD i 0))]) (by kernel_rfl) (ldN [.int .i64 (mu (ys.getD i 0) ((ivl xs).getD i 0))] 1 b39 0 [.int .i64 (mu (ys.getD i 0) ((ivl xs).getD i 0))] 72 rfl (by kernel_rfl) Try.isAgg72 Try.sizeOf72 (by kernel_rfl) (by kernel_rfl)) ?_
            refine D_val (.iface 72 (.agg #[.int .i64 (mu (ys.getD i 0) ((ivl xs).getD i 0))])) (by kernel_rfl) (fun _ => by kernel_rfl) ?_
            refine D_held (.agg #[.int .i64 ((wl xs i).getD k 0)]) (by kernel_rfl) (ldN [.int .i64 ((wl xs i).getD k 0)] 0 b41 0 [.int .i64 ((wl xs i).getD k 0)] 72 rfl (by kernel_rfl) Try.isAgg72 Try.sizeOf72 (by kernel_rfl) (by kernel_rfl)) ?_
            refine D_pure (v := .agg #[.int .i64 (mu (mu (ys.getD i 0) ((ivl xs).getD i 0)) ((wl xs i).getD k 0))]) (by kernel_rfl) (c_mul (mu (ys.getD i 0) ((ivl xs).getD i 0)) ((wl xs i).getD k 0)) (fun _ => by kernel_rfl) ?_
            refine D_pure (v := .agg #[.int .i64 (ad ((adr (wl xs i) (mu (ys.getD i 0) ((ivl xs).getD i 0)) (ipo xs ys i) k).getD k 0) (mu (mu (ys.getD i 0) ((ivl xs).getD i 0)) ((wl xs i).getD k 0)))]) (by kernel_rfl) (c_add ((adr (wl xs i) (mu (ys.getD i 0) ((ivl xs).getD i 0)) (ipo xs ys i) k).getD k 0) (mu (mu (ys.getD i 0) ((ivl xs).getD i 0)) ((wl xs i).getD k 0))) (fun _ => by kernel_rfl) ?_
            refine D_val (.pointer (some ⟨b28, 0 + k * 1, none⟩)) (by kernel_rfl) (ixS (k := .i64) b28 0 xs.length xs.length 1 k rfl (by kernel_rfl) (by kernel_rfl) Try.underlying69 Try.sizeOf72 (by omega)) ?_
            refine D_do (by kernel_rfl) (stF (L' := [⟨b41, [.int .i64 ((wl xs i).getD k 0)], 72⟩, ⟨b39, [.int .i64 (mu (ys.getD i 0) ((ivl xs).getD i 0))], 72⟩, ⟨b38, [.int .i64 ((ivl xs).getD i 0)], 72⟩, ⟨b28, (((adr (wl xs i) (mu (ys.getD i 0) ((ivl xs).getD i 0)) (ipo xs ys i) k).set k (ad ((adr (wl xs i) (mu (ys.getD i 0) ((ivl xs).getD i 0)) (ipo xs ys i) k).getD k 0) (mu (mu (ys.getD i 0) ((ivl xs).getD i 0)) ((wl xs i).getD k 0)))).flatMap f7), 72⟩, ⟨b20, ((atl xs xs.length).flatMap f7), 72⟩, ⟨b19, ((ro xs.length rr).flatMap (fun u => [u])), 69⟩] ++ ob ++ rr.flatMap Prod.snd ++ ob30) f7_len f7_one (adr (wl xs i) (mu (ys.getD i 0) ((ivl xs).getD i 0)) (ipo xs ys i) k) (ad ((adr (wl xs i) (mu (ys.getD i 0) ((ivl xs).getD i 0)) (ipo xs ys i) k).getD k 0) (mu (mu (ys.getD i 0) ((ivl xs).getD i 0)) ((wl xs i).getD k 0))) k (0 + k * 1) 3 b28 72 rfl (by kernel_rfl) (by kernel_rfl) (by omega) (by rw [adr_length, ipo_length]; omega) Try.sizeOf72 (by kernel_rfl) (by kernel_rfl)) ?_
            refine D_nil ?_
            refine E_inblock ?_
            refine E_then ?_
            refine C_region ?_
            refine S_val (.int .i64 ((k + 1 : Nat) : Int)) (by kernel_rfl) (fun _ _ => fv (v := .int .i64 (IntKind.i64.wrap (((k : Nat) : Int) + 1))) (vint (w64 (by omega) (by omega) (by omega))) (by kernel_rfl)) ?_
            refine S_val (.int .i64 ((k + 1 : Nat) : Int)) (by kernel_rfl) (fun _ _ => by kernel_rfl) ?_
            refine S_nil ?_
            exact E_norm (fun w hw => ⟨k + 1, by omega, (by kernel_rfl), (by (try dsimp only); omega), hw.tail⟩)
          · replace hc := of_decide_eq_false hc
            obtain rfl : k = xs.length := by omega
            refine C_exit ?_
            refine E_pass_exit ?_
            refine E_pass_exit ?_
            refine E_outblock ?_
            refine E_inblock ?_
            refine E_then ?_
            refine C_region ?_
            refine S_val (.int .i64 ((i + 1 : Nat) : Int)) (by kernel_rfl) (fun _ _ => fv (v := .int .i64 (IntKind.i64.wrap (((i : Nat) : Int) + 1))) (vint (w64 (by omega) (by omega) (by omega))) (by kernel_rfl)) ?_
            refine S_val (.int .i64 ((i + 1 : Nat) : Int)) (by kernel_rfl) (fun _ _ => by kernel_rfl) ?_
            refine S_nil ?_
            exact E_norm (fun w hw => ⟨i + 1, by omega, (by kernel_rfl), (by (try dsimp only); omega), hw.tail.tail⟩)
        · replace hc := of_decide_eq_false hc
          obtain rfl : i = xs.length := by omega
          refine C_exit ?_
          refine E_pass_exit ?_
          refine E_pass_exit ?_
          refine E_outblock ?_
          refine E_then ?_
          refine C_seq ?_
          refine C_region ?_
          refine S_val (.slice (some ⟨b28, 0, none⟩) xs.length xs.length) (by kernel_rfl) (fun _ _ => by kernel_rfl) ?_
          refine S_val (.slice (some ⟨b28, 0, none⟩) xs.length xs.length) (by kernel_rfl) (fun _ _ => by kernel_rfl) ?_
          refine S_val (.int .i64 0) (by kernel_rfl) (fun _ _ => by kernel_rfl) ?_
          refine S_nil ?_
          refine E_then ?_
          refine C_ret ?_
          exact gives_row (mk := (fun v => .tuple #[v, .int .i64 0])) (Rw.whole' f7_len b28 (ipo xs ys xs.length) xs.length (by exact ipo_length _ _ _) (le_maxLen (by omega))) (sub1 0 (by kernel_rfl)) rfl (resM (rs := [.tmp 4, .tmp 5]) Try.results57 [.slice (some ⟨b28, 0, none⟩) xs.length xs.length, .int .i64 0] (by simp) (fun w hO => (.tmp (by kernel_rfl) (.tmp (by kernel_rfl) .nil))))
end Go.Vk
