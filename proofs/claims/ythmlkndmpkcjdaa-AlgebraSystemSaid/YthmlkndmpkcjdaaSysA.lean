/- What functions of the program do: walks, printed by a program of my own. -/
import Derived.Test.YthmlkndmpkcjdaaSysP
set_option linter.unusedVariables false
set_option linter.unusedSimpArgs false
namespace Go.Vk
open Go Go.RowKit Go.Proofs
theorem c_inner (w0 : World) (v u : Value) (a b : List Int) (hv : Rd w0 v 1 f7 a) (hu : Rd w0 u 1 f7 b) (hab : b.length = a.length) (hl : a.length ≤ 1152921504606846976) : Calls Try.prog 42 #[v, u] w0 fun e w' => e = .returned (.tuple #[.agg #[.int .i64 (in7 a b a.length)], .int .i64 0]) ∧ Below w0.heap.size w0 w' := by
  obtain ⟨ao, cap, rfl, hx⟩ := hv.o
  obtain ⟨ao2, cap2, rfl, hy⟩ := hu.o
  refine calls_start Try.func42 rfl ?_
  refine C_seq ?_
  refine C_region ?_
  refine S_newv (fun nb0 => .pointer (some ⟨nb0, 0, none⟩)) [.int .i64 0] 72 (by kernel_rfl) (fun w _ => by kernel_rfl) ?_
  intro b1 hb1 Hb1
  refine S_val (.int .i64 0) (by kernel_rfl) (fun _ _ => by kernel_rfl) ?_
  refine S_nil ?_
  refine E_then ?_
  refine C_seq ?_
  refine C_region ?_
  refine S_newv (fun nb0 => .pointer (some ⟨nb0, 0, none⟩)) [.int .i64 0] 72 (by kernel_rfl) (fun w _ => by kernel_rfl) ?_
  intro b2 hb2 Hb2
  refine S_nil ?_
  refine E_then ?_
  refine C_seq ?_
  refine C_seq ?_
  refine C_region ?_
  refine S_val (.slice ao a.length cap) (by kernel_rfl) (fun _ _ => by kernel_rfl) ?_
  refine S_val (.int .i64 ((a.length : Nat) : Int)) (by kernel_rfl) (fun _ _ => by kernel_rfl) ?_
  refine S_val (.slice ao2 b.length cap2) (by kernel_rfl) (fun _ _ => by kernel_rfl) ?_
  refine S_val (.int .i64 ((b.length : Nat) : Int)) (by kernel_rfl) (fun _ _ => by kernel_rfl) ?_
  refine S_val (.bool false) (by kernel_rfl) (fun _ _ => fv (v := .bool (((a.length : Nat) : Int) != ((b.length : Nat) : Int))) (vbool (bne_eq_false_iff_eq.2 (by omega))) (by kernel_rfl)) ?_
  refine S_nil ?_
  refine E_then ?_
  refine C_false (by kernel_rfl) ?_
  refine C_skip ?_
  refine E_then ?_
  refine C_seq ?_
  refine C_seq ?_
  refine C_region ?_
  refine S_val (.slice ao a.length cap) (by kernel_rfl) (fun _ _ => by kernel_rfl) ?_
  refine S_val (.int .i64 ((a.length : Nat) : Int)) (by kernel_rfl) (fun _ _ => by kernel_rfl) ?_
  refine S_val (.int .i64 0) (by kernel_rfl) (fun _ _ => by kernel_rfl) ?_
  refine S_nil ?_
  refine E_then ?_
  refine C_block ?_
  refine C_loop1 (fun (i : Nat) => (i ≤ a.length)) (fun (i : Nat) => fun g => ⟨#[g 0, .slice ao2 b.length cap2, g 2, g 3, .pointer (some ⟨b1, 0, none⟩), g 5, .pointer (some ⟨b2, 0, none⟩), g 7, g 8, g 9, g 10, g 11, g 12, g 13, g 14, .slice ao a.length cap, .int .i64 ((a.length : Nat) : Int), .int .i64 ((i : Nat) : Int), g 18, g 19, g 20, g 21, g 22, g 23, g 24, g 25, g 26, g 27, g 28, g 29, g 30, g 31, g 32, g 33], []⟩) (fun (i : Nat) => [⟨b2, [.int .i64 (in7 a b i)], 72⟩, ⟨b1, [.int .i64 0], 72⟩]) (fun (i : Nat) => a.length - i) 0 (by (try dsimp only); exact Nat.zero_le _) (by kernel_rfl) (by first | (dsimp only; done) | ((try dsimp only); kernel_rfl)) ?_
  rintro i g3 hi
  refine C_seq ?_
  refine C_region ?_
  refine S_val (.bool (decide (((i : Nat) : Int) < ((a.length : Nat) : Int)))) (by kernel_rfl) (fun _ _ => by kernel_rfl) ?_
  refine S_nil ?_
  refine E_then ?_
  refine C_seq ?_
  refine C_if (decide (((i : Nat) : Int) < ((a.length : Nat) : Int))) (by kernel_rfl) (fun hc => ?_) (fun hc => ?_)
  · replace hc := of_decide_eq_true hc
    obtain ⟨bi4, oi5, rfl, hi6⟩ := hx.op (by omega)
    obtain ⟨bi7, oi8, rfl, hi9⟩ := hy.op (by omega)
    refine C_skip ?_
    refine E_then ?_
    refine C_seq ?_
    refine C_block ?_
    refine C_seq ?_
    refine C_region ?_
    refine S_val (.int .i64 ((i : Nat) : Int)) (by kernel_rfl) (fun _ _ => by kernel_rfl) ?_
    refine S_val (.pointer (some ⟨bi4, oi5 + i * 1, none⟩)) (by kernel_rfl) (fun w _ => (ixS (k := .i64) bi4 oi5 a.length cap 1 i rfl (by kernel_rfl) (by kernel_rfl) Try.underlying69 Try.sizeOf72 (by omega)) w) ?_
    refine S_val (.agg #[.int .i64 (a.getD i 0)]) (by kernel_rfl) (ldR f7_len 0 i bi4 oi5 (oi5 + i * 1) hi6 rfl (by kernel_rfl) rfl (by omega) Try.isAgg72 Try.sizeOf72) ?_
    refine S_newv (fun nb0 => .pointer (some ⟨nb0, 0, none⟩)) [.int .i64 0] 72 (by kernel_rfl) (fun w _ => by kernel_rfl) ?_
    intro b10 hb10 Hb10
    refine S_val (.int .i64 ((i : Nat) : Int)) (by kernel_rfl) (fun _ _ => by kernel_rfl) ?_
    refine S_do (by kernel_rfl) (stN (L' := [⟨b10, [.int .i64 (a.getD i 0)], 72⟩, ⟨b2, [.int .i64 (in7 a b i)], 72⟩, ⟨b1, [.int .i64 0], 72⟩]) [.int .i64 (a.getD i 0)] 0 b10 0 [.int .i64 0] 72 rfl (by kernel_rfl) (by kernel_rfl) Try.sizeOf72 (by simp [Value.oneCell']) (by kernel_rfl) (by simp) (by kernel_rfl)) ?_
    refine S_nil ?_
    refine E_then ?_
    refine C_drawn [.held, .pure, .held, .pure, .pure, .pure, .pure, .held, .held, .held, .eff] (by kernel_rfl) (by kernel_rfl) ?_
    refine D_held (.agg #[.int .i64 (in7 a b i)]) (by kernel_rfl) (ldN [.int .i64 (in7 a b i)] 1 b2 0 [.int .i64 (in7 a b i)] 72 rfl (by kernel_rfl) Try.isAgg72 Try.sizeOf72 (by kernel_rfl) (by kernel_rfl)) ?_
    refine D_val (.iface 72 (.agg #[.int .i64 (in7 a b i)])) (by kernel_rfl) (fun _ => by kernel_rfl) ?_
    refine D_held (.agg #[.int .i64 (a.getD i 0)]) (by kernel_rfl) (ldN [.int .i64 (a.getD i 0)] 0 b10 0 [.int .i64 (a.getD i 0)] 72 rfl (by kernel_rfl) Try.isAgg72 Try.sizeOf72 (by kernel_rfl) (by kernel_rfl)) ?_
    refine D_val (.iface 72 (.agg #[.int .i64 (a.getD i 0)])) (by kernel_rfl) (fun _ => by kernel_rfl) ?_
    refine D_val (.slice (some ⟨bi7, oi8, none⟩) b.length cap2) (by kernel_rfl) (fun _ => by kernel_rfl) ?_
    refine D_val (.int .i64 ((i : Nat) : Int)) (by kernel_rfl) (fun _ => by kernel_rfl) ?_
    refine D_val (.pointer (some ⟨bi7, oi8 + i * 1, none⟩)) (by kernel_rfl) (ixS (k := .i64) bi7 oi8 b.length cap2 1 i rfl (by kernel_rfl) (by kernel_rfl) Try.underlying69 Try.sizeOf72 (by omega)) ?_
    refine D_held (.agg #[.int .i64 (b.getD i 0)]) (by kernel_rfl) (ldR f7_len 0 i bi7 oi8 (oi8 + i * 1) hi9 rfl (by kernel_rfl) rfl (by omega) Try.isAgg72 Try.sizeOf72) ?_
    refine D_pure (v := .agg #[.int .i64 (mu (a.getD i 0) (b.getD i 0))]) (by kernel_rfl) (c_mul (a.getD i 0) (b.getD i 0)) (fun _ => by kernel_rfl) ?_
    refine D_pure (v := .agg #[.int .i64 (ad (in7 a b i) (mu (a.getD i 0) (b.getD i 0)))]) (by kernel_rfl) (c_add (in7 a b i) (mu (a.getD i 0) (b.getD i 0))) (fun _ => by kernel_rfl) ?_
    refine D_do (by kernel_rfl) (stN (L' := [⟨b10, [.int .i64 (a.getD i 0)], 72⟩, ⟨b2, [.int .i64 (ad (in7 a b i) (mu (a.getD i 0) (b.getD i 0)))], 72⟩, ⟨b1, [.int .i64 0], 72⟩]) [.int .i64 (ad (in7 a b i) (mu (a.getD i 0) (b.getD i 0)))] 1 b2 0 [.int .i64 (in7 a b i)] 72 rfl (by kernel_rfl) (by kernel_rfl) Try.sizeOf72 (by simp [Value.oneCell']) (by kernel_rfl) (by simp) (by kernel_rfl)) ?_
    refine D_nil ?_
    refine E_inblock ?_
    refine E_then ?_
    refine C_region ?_
    refine S_val (.int .i64 ((i + 1 : Nat) : Int)) (by kernel_rfl) (fun _ _ => fv (v := .int .i64 (IntKind.i64.wrap (((i : Nat) : Int) + 1))) (vint (w64 (by omega) (by omega) (by omega))) (by kernel_rfl)) ?_
    refine S_val (.int .i64 ((i + 1 : Nat) : Int)) (by kernel_rfl) (fun _ _ => by kernel_rfl) ?_
    refine S_nil ?_
    exact E_norm (fun w hw => ⟨i + 1, by omega, (by kernel_rfl), (by (try dsimp only); omega), hw.tail⟩)
  · replace hc := of_decide_eq_false hc
    obtain rfl : i = a.length := by omega
    refine C_exit ?_
    refine E_pass_exit ?_
    refine E_pass_exit ?_
    refine E_outblock ?_
    refine E_then ?_
    refine C_seq ?_
    refine C_region ?_
    refine S_val (.agg #[.int .i64 (in7 a b a.length)]) (by kernel_rfl) (ldN [.int .i64 (in7 a b a.length)] 0 b2 0 [.int .i64 (in7 a b a.length)] 72 rfl (by kernel_rfl) Try.isAgg72 Try.sizeOf72 (by kernel_rfl) (by kernel_rfl)) ?_
    refine S_do (by kernel_rfl) (stN (L' := [⟨b2, [.int .i64 (in7 a b a.length)], 72⟩, ⟨b1, [.int .i64 (in7 a b a.length)], 72⟩]) [.int .i64 (in7 a b a.length)] 1 b1 0 [.int .i64 0] 72 rfl (by kernel_rfl) (by kernel_rfl) Try.sizeOf72 (by simp [Value.oneCell']) (by kernel_rfl) (by simp) (by kernel_rfl)) ?_
    refine S_val (.int .i64 0) (by kernel_rfl) (fun _ _ => by kernel_rfl) ?_
    refine S_nil ?_
    refine E_then ?_
    refine C_ret ?_
    exact pure_ret rfl (resM (rs := [.cell 4 72, .tmp 5]) Try.results42 [.agg #[.int .i64 (in7 a b a.length)], .int .i64 0] (by simp) (fun w hO => (.cell (by kernel_rfl) (resCell hO [.int .i64 (in7 a b a.length)] 1 b1 72 Try.isAgg72 Try.sizeOf72 (by kernel_rfl)) (.tmp (by kernel_rfl) .nil))))
theorem zst {A : List (List Int)} {n k j : Nat} (hz : true = true ↔ ∀ q, q < j → hv A q k n % 7 = 0) : hv A j k n % 7 = 0 ↔ ∀ q, q < j + 1 → hv A q k n % 7 = 0 := by
  have h := hz.1 rfl
  refine ⟨fun h1 q hq => ?_, fun h1 => h1 j (by omega)⟩
  rcases Nat.lt_succ_iff_lt_or_eq.1 hq with h3 | h3
  · exact h q h3
  · rw [h3]; exact h1
theorem zsf {A : List (List Int)} {n k j : Nat} (hz : false = true ↔ ∀ q, q < j → hv A q k n % 7 = 0) : false = true ↔ ∀ q, q < j + 1 → hv A q k n % 7 = 0 :=
  ⟨fun h => (by cases h), fun h => absurd (hz.2 fun q hq => h q (by omega)) (by decide)⟩
theorem c_hangs (w0 : World) (vr : Value) (A : List (List Int)) (n : Nat) (hn : n ≤ 3) (hAn : A.length = n) (hA : ∀ i, i < n → (A.getD i []).length = n) (hr : RdM w0 vr A) : Calls Try.prog 44 #[vr] w0 fun e w' => e = .returned (.bool (hgb A n)) ∧ Below w0.heap.size w0 w' := by
  obtain ⟨vs, hvl, hvr, hvi⟩ := hr
  obtain ⟨ao, cap, e1, hx⟩ := hvr.o
  rw [hAn] at hvi
  rw [hvl, hAn] at e1
  subst e1
  refine calls_start Try.func44 rfl ?_
  refine C_seq ?_
  refine C_region ?_
  refine S_val (.bool false) (by kernel_rfl) (fun _ _ => by kernel_rfl) ?_
  refine S_nil ?_
  refine E_then ?_
  refine C_seq ?_
  refine C_region ?_
  refine S_val (.slice ao n cap) (by kernel_rfl) (fun _ _ => by kernel_rfl) ?_
  refine S_val (.int .i64 ((n : Nat) : Int)) (by kernel_rfl) (fun _ _ => by kernel_rfl) ?_
  refine S_val (.int .i64 ((n : Nat) : Int)) (by kernel_rfl) (fun _ _ => by kernel_rfl) ?_
  refine S_nil ?_
  refine E_then ?_
  refine C_seq ?_
  refine C_region ?_
  refine S_val (.int .i64 1) (by kernel_rfl) (fun _ _ => by kernel_rfl) ?_
  refine S_nil ?_
  refine E_then ?_
  refine C_seq ?_
  refine C_seq ?_
  refine C_region ?_
  refine S_val (.int .i64 0) (by kernel_rfl) (fun _ _ => by kernel_rfl) ?_
  refine S_nil ?_
  refine E_then ?_
  refine C_block ?_
  refine C_loop1 (fun (i : Nat) => (i ≤ n)) (fun (i : Nat) => fun g => ⟨#[.slice ao n cap, g 1, g 2, .int .i64 ((n : Nat) : Int), .int .i64 ((7 ^ i : Nat) : Int), .int .i64 ((i : Nat) : Int), g 6, g 7, g 8, g 9, g 10, g 11, g 12, g 13, g 14, g 15, g 16, g 17, g 18, g 19, g 20, g 21, g 22, g 23, g 24, g 25, g 26, g 27, g 28, g 29, g 30, g 31, g 32, g 33, g 34, g 35, g 36, g 37, g 38, g 39, g 40, g 41, g 42, g 43, g 44, g 45, g 46, g 47, g 48, g 49, g 50, g 51, g 52, g 53, g 54, g 55, g 56, g 57, g 58], []⟩) (fun (i : Nat) => []) (fun (i : Nat) => n - i) 0 (by (try dsimp only); exact Nat.zero_le _) (by kernel_rfl) (by first | (dsimp only; done) | ((try dsimp only); kernel_rfl)) ?_
  rintro i g1 hi
  have h343 := pow7 (i := i) (by omega)
  refine C_seq ?_
  refine C_seq ?_
  refine C_region ?_
  refine S_val (.int .i64 ((i : Nat) : Int)) (by kernel_rfl) (fun _ _ => by kernel_rfl) ?_
  refine S_val (.int .i64 ((n : Nat) : Int)) (by kernel_rfl) (fun _ _ => by kernel_rfl) ?_
  refine S_val (.bool (decide (((i : Nat) : Int) < ((n : Nat) : Int)))) (by kernel_rfl) (fun _ _ => by kernel_rfl) ?_
  refine S_nil ?_
  refine E_then ?_
  refine C_if (decide (((i : Nat) : Int) < ((n : Nat) : Int))) (by kernel_rfl) (fun hc => ?_) (fun hc => ?_)
  · replace hc := of_decide_eq_true hc
    refine C_skip ?_
    refine E_then ?_
    refine C_seq ?_
    refine C_block ?_
    refine C_region ?_
    refine S_val (.int .i64 ((7 ^ i : Nat) : Int)) (by kernel_rfl) (fun _ _ => by kernel_rfl) ?_
    refine S_val (.int .i64 ((7 ^ (i + 1) : Nat) : Int)) (by kernel_rfl) (fun _ _ => fv (v := .int .i64 (IntKind.i64.wrap (((7 ^ i : Nat) : Int) * 7))) (vint (w64 (by rw [Nat.pow_succ]; omega) (by rw [Nat.pow_succ]; omega) (by rw [Nat.pow_succ]; omega))) (by kernel_rfl)) ?_
    refine S_val (.int .i64 ((7 ^ (i + 1) : Nat) : Int)) (by kernel_rfl) (fun _ _ => by kernel_rfl) ?_
    refine S_nil ?_
    refine E_inblock ?_
    refine E_then ?_
    refine C_region ?_
    refine S_val (.int .i64 ((i : Nat) : Int)) (by kernel_rfl) (fun _ _ => by kernel_rfl) ?_
    refine S_val (.int .i64 ((i + 1 : Nat) : Int)) (by kernel_rfl) (fun _ _ => fv (v := .int .i64 (IntKind.i64.wrap (((i : Nat) : Int) + 1))) (vint (w64 (by omega) (by omega) (by omega))) (by kernel_rfl)) ?_
    refine S_val (.int .i64 ((i + 1 : Nat) : Int)) (by kernel_rfl) (fun _ _ => by kernel_rfl) ?_
    refine S_nil ?_
    exact E_norm (fun w hw => ⟨i + 1, by omega, (by kernel_rfl), (by (try dsimp only); omega), hw⟩)
  · replace hc := of_decide_eq_false hc
    obtain rfl : n = i := by omega
    refine C_exit ?_
    refine E_pass_exit ?_
    refine E_pass_exit ?_
    refine E_outblock ?_
    refine E_then ?_
    refine C_seq ?_
    refine C_seq ?_
    refine C_region ?_
    refine S_val (.int .i64 1) (by kernel_rfl) (fun _ _ => by kernel_rfl) ?_
    refine S_nil ?_
    refine E_then ?_
    refine C_block ?_
    refine C_loop1 (fun (k : Nat) => (1 ≤ k) ∧ (k ≤ 7 ^ n) ∧ (∀ q, 1 ≤ q → q < k → ¬ van A n q)) (fun (k : Nat) => fun g => ⟨#[.slice ao n cap, g 1, g 2, .int .i64 ((n : Nat) : Int), .int .i64 ((7 ^ n : Nat) : Int), g 5, .int .i64 ((k : Nat) : Int), g 7, g 8, g 9, g 10, g 11, g 12, g 13, g 14, g 15, g 16, g 17, g 18, g 19, g 20, g 21, g 22, g 23, g 24, g 25, g 26, g 27, g 28, g 29, g 30, g 31, g 32, g 33, g 34, g 35, g 36, g 37, g 38, g 39, g 40, g 41, g 42, g 43, g 44, g 45, g 46, g 47, g 48, g 49, g 50, g 51, g 52, g 53, g 54, g 55, g 56, g 57, g 58], []⟩) (fun (k : Nat) => []) (fun (k : Nat) => 7 ^ n - k) 1 (by (try dsimp only); exact ⟨Nat.le_refl _, Nat.one_le_pow _ _ (by decide), fun q h1 h2 => (by omega)⟩) (by kernel_rfl) (by first | (dsimp only; done) | ((try dsimp only); kernel_rfl)) ?_
    rintro k g2 ⟨hk1, hk, hno⟩
    refine C_seq ?_
    refine C_seq ?_
    refine C_region ?_
    refine S_val (.int .i64 ((k : Nat) : Int)) (by kernel_rfl) (fun _ _ => by kernel_rfl) ?_
    refine S_val (.int .i64 ((7 ^ n : Nat) : Int)) (by kernel_rfl) (fun _ _ => by kernel_rfl) ?_
    refine S_val (.bool (decide (((k : Nat) : Int) < ((7 ^ n : Nat) : Int)))) (by kernel_rfl) (fun _ _ => by kernel_rfl) ?_
    refine S_nil ?_
    refine E_then ?_
    refine C_if (decide (((k : Nat) : Int) < ((7 ^ n : Nat) : Int))) (by kernel_rfl) (fun hk7 => ?_) (fun hk7 => ?_)
    · replace hk7 := of_decide_eq_true hk7
      replace hk7 : k < 7 ^ n := by omega
      refine C_skip ?_
      refine E_then ?_
      refine C_seq ?_
      refine C_block ?_
      refine C_seq ?_
      refine C_region ?_
      refine S_val (.bool true) (by kernel_rfl) (fun _ _ => by kernel_rfl) ?_
      refine S_nil ?_
      refine E_then ?_
      refine C_seq ?_
      refine C_seq ?_
      refine C_region ?_
      refine S_val (.int .i64 0) (by kernel_rfl) (fun _ _ => by kernel_rfl) ?_
      refine S_nil ?_
      refine E_then ?_
      refine C_block ?_
      refine C_loop2 (fun (j : Nat) (z : Bool) => (j ≤ n) ∧ (z = true ↔ ∀ q, q < j → hv A q k n % 7 = 0)) (fun (j : Nat) (z : Bool) => fun g => ⟨#[.slice ao n cap, g 1, g 2, .int .i64 ((n : Nat) : Int), .int .i64 ((7 ^ n : Nat) : Int), g 5, .int .i64 ((k : Nat) : Int), .bool z, .int .i64 ((j : Nat) : Int), g 9, g 10, g 11, g 12, g 13, g 14, g 15, g 16, g 17, g 18, g 19, g 20, g 21, g 22, g 23, g 24, g 25, g 26, g 27, g 28, g 29, g 30, g 31, g 32, g 33, g 34, g 35, g 36, g 37, g 38, g 39, g 40, g 41, g 42, g 43, g 44, g 45, g 46, g 47, g 48, g 49, g 50, g 51, g 52, g 53, g 54, g 55, g 56, g 57, g 58], []⟩) (fun (j : Nat) (z : Bool) => []) (fun (j : Nat) (z : Bool) => n - j) 0 true (by (try dsimp only); exact ⟨Nat.zero_le _, ⟨fun _ q hq => (by omega), fun _ => rfl⟩⟩) (by kernel_rfl) (by first | (dsimp only; done) | ((try dsimp only); kernel_rfl)) ?_
      rintro j z g3 ⟨hj, hz⟩
      refine C_seq ?_
      refine C_seq ?_
      refine C_region ?_
      refine S_val (.int .i64 ((j : Nat) : Int)) (by kernel_rfl) (fun _ _ => by kernel_rfl) ?_
      refine S_val (.int .i64 ((n : Nat) : Int)) (by kernel_rfl) (fun _ _ => by kernel_rfl) ?_
      refine S_val (.bool (decide (((j : Nat) : Int) < ((n : Nat) : Int)))) (by kernel_rfl) (fun _ _ => by kernel_rfl) ?_
      refine S_nil ?_
      refine E_then ?_
      refine C_if (decide (((j : Nat) : Int) < ((n : Nat) : Int))) (by kernel_rfl) (fun hjn => ?_) (fun hjn => ?_)
      · replace hjn := of_decide_eq_true hjn
        replace hjn : j < n := by omega
        refine C_skip ?_
        refine E_then ?_
        refine C_seq ?_
        refine C_block ?_
        refine C_seq ?_
        refine C_region ?_
        refine S_val (.int .i64 0) (by kernel_rfl) (fun _ _ => by kernel_rfl) ?_
        refine S_nil ?_
        refine E_then ?_
        refine C_seq ?_
        refine C_region ?_
        refine S_val (.int .i64 ((k : Nat) : Int)) (by kernel_rfl) (fun _ _ => by kernel_rfl) ?_
        refine S_val (.int .i64 ((k / 7 ^ 0 : Nat) : Int)) (by kernel_rfl) (fun _ _ => fv (v := .int .i64 ((k : Nat) : Int)) (vint (by simp)) (by kernel_rfl)) ?_
        refine S_nil ?_
        refine E_then ?_
        refine C_seq ?_
        refine C_seq ?_
        refine C_region ?_
        refine S_val (.int .i64 0) (by kernel_rfl) (fun _ _ => by kernel_rfl) ?_
        refine S_nil ?_
        refine E_then ?_
        refine C_block ?_
        refine C_loop1 (fun (i : Nat) => (i ≤ n)) (fun (i : Nat) => fun g => ⟨#[.slice ao n cap, g 1, g 2, .int .i64 ((n : Nat) : Int), .int .i64 ((7 ^ n : Nat) : Int), g 5, .int .i64 ((k : Nat) : Int), .bool z, .int .i64 ((j : Nat) : Int), .int .i64 (hv A j k i), .int .i64 ((k / 7 ^ i : Nat) : Int), .int .i64 ((i : Nat) : Int), g 12, g 13, g 14, g 15, g 16, g 17, g 18, g 19, g 20, g 21, g 22, g 23, g 24, g 25, g 26, g 27, g 28, g 29, g 30, g 31, g 32, g 33, g 34, g 35, g 36, g 37, g 38, g 39, g 40, g 41, g 42, g 43, g 44, g 45, g 46, g 47, g 48, g 49, g 50, g 51, g 52, g 53, g 54, g 55, g 56, g 57, g 58], []⟩) (fun (i : Nat) => []) (fun (i : Nat) => n - i) 0 (by (try dsimp only); exact Nat.zero_le _) (by kernel_rfl) (by first | (dsimp only; done) | ((try dsimp only); kernel_rfl)) ?_
        rintro i g4 hi
        have hdl := divpow_le k i
        have hvb := hv_bd A j k i
        refine C_seq ?_
        refine C_seq ?_
        refine C_region ?_
        refine S_val (.int .i64 ((i : Nat) : Int)) (by kernel_rfl) (fun _ _ => by kernel_rfl) ?_
        refine S_val (.int .i64 ((n : Nat) : Int)) (by kernel_rfl) (fun _ _ => by kernel_rfl) ?_
        refine S_val (.bool (decide (((i : Nat) : Int) < ((n : Nat) : Int)))) (by kernel_rfl) (fun _ _ => by kernel_rfl) ?_
        refine S_nil ?_
        refine E_then ?_
        refine C_if (decide (((i : Nat) : Int) < ((n : Nat) : Int))) (by kernel_rfl) (fun hin => ?_) (fun hin => ?_)
        · replace hin := of_decide_eq_true hin
          obtain ⟨bi5, oi6, rfl, hi7⟩ := hx.op (by omega)
          have hrow := hvi i (by omega)
          obtain ⟨ai, capi, ei, hia⟩ := hrow.o
          rw [hA i (by omega)] at ei
          obtain ⟨bi, oi, rfl, hri⟩ := hia.op (by rw [hA i (by omega)]; omega)
          refine C_skip ?_
          refine E_then ?_
          refine C_seq ?_
          refine C_block ?_
          refine C_seq ?_
          refine C_region ?_
          refine S_val (.int .i64 (hv A j k i)) (by kernel_rfl) (fun _ _ => by kernel_rfl) ?_
          refine S_val (.int .i64 ((k / 7 ^ i : Nat) : Int)) (by kernel_rfl) (fun _ _ => by kernel_rfl) ?_
          refine S_val (.int .i64 ((k / 7 ^ i % 7 : Nat) : Int)) (by kernel_rfl) (fun _ _ => fv (v := .int .i64 (((k / 7 ^ i : Nat) : Int).tmod 7)) (vint (tmodn _)) (by kernel_rfl)) ?_
          refine S_val (.slice (some ⟨bi5, oi6, none⟩) n cap) (by kernel_rfl) (fun _ _ => by kernel_rfl) ?_
          refine S_val (.int .i64 ((i : Nat) : Int)) (by kernel_rfl) (fun _ _ => by kernel_rfl) ?_
          refine S_val (.pointer (some ⟨bi5, oi6 + i * 1, none⟩)) (by kernel_rfl) (fun w _ => (ixS (k := .i64) bi5 oi6 n cap 1 i rfl (by kernel_rfl) (by kernel_rfl) Try.underlying73 Try.sizeOf69 (by omega)) w) ?_
          refine S_val (.slice (some ⟨bi, oi, none⟩) n capi) (by kernel_rfl) (fun w hO => fv (v := vs.getD i undef) ei (ldR1 (v := vs.getD i undef) undef i 0 bi5 oi6 (oi6 + i * 1) hi7 rfl (by kernel_rfl) rfl (by omega) rfl Try.isAgg69 w hO)) ?_
          refine S_val (.int .i64 ((j : Nat) : Int)) (by kernel_rfl) (fun _ _ => by kernel_rfl) ?_
          refine S_val (.pointer (some ⟨bi, oi + j * 1, none⟩)) (by kernel_rfl) (fun w _ => (ixS (k := .i64) bi oi n capi 1 j rfl (by kernel_rfl) (by kernel_rfl) Try.underlying69 Try.sizeOf72 (by omega)) w) ?_
          refine S_val (.agg #[.int .i64 ((A.getD i []).getD j 0)]) (by kernel_rfl) (ldR f7_len 0 j bi oi (oi + j * 1) hri rfl (by kernel_rfl) rfl (by rw [hA i (by omega)]; omega) Try.isAgg72 Try.sizeOf72) ?_
          refine S_pure (v := .int .i64 (((A.getD i []).getD j 0) % 7)) (by kernel_rfl) (c_r ((A.getD i []).getD j 0)) (fun _ => by kernel_rfl) ?_
          refine S_val (.int .i64 (((k / 7 ^ i % 7 : Nat) : Int) * ((A.getD i []).getD j 0 % 7))) (by kernel_rfl) (fun _ _ => fv (v := .int .i64 (IntKind.i64.wrap (((k / 7 ^ i % 7 : Nat) : Int) * (((A.getD i []).getD j 0) % 7)))) (vint (w64 rfl (by have := mulb2 (k / 7 ^ i % 7) ((A.getD i []).getD j 0) (Nat.mod_lt _ (by omega)); omega) (by have := mulb2 (k / 7 ^ i % 7) ((A.getD i []).getD j 0) (Nat.mod_lt _ (by omega)); omega))) (by kernel_rfl)) ?_
          refine S_val (.int .i64 (hv A j k (i + 1))) (by kernel_rfl) (fun _ _ => fv (v := .int .i64 (IntKind.i64.wrap ((hv A j k i) + (((k / 7 ^ i % 7 : Nat) : Int) * ((A.getD i []).getD j 0 % 7))))) (vint (w64 rfl (by have := hv_bd A j k (i + 1); simp only [hv] at this; omega) (by have := hv_bd A j k (i + 1); simp only [hv] at this; omega))) (by kernel_rfl)) ?_
          refine S_val (.int .i64 (hv A j k (i + 1))) (by kernel_rfl) (fun _ _ => by kernel_rfl) ?_
          refine S_nil ?_
          refine E_then ?_
          refine C_region ?_
          refine S_val (.int .i64 ((k / 7 ^ i : Nat) : Int)) (by kernel_rfl) (fun _ _ => by kernel_rfl) ?_
          refine S_val (.int .i64 ((k / 7 ^ (i + 1) : Nat) : Int)) (by kernel_rfl) (fun _ _ => fv (v := .int .i64 (IntKind.i64.wrap (((k / 7 ^ i : Nat) : Int).tdiv 7))) (vint (w64 (by rw [tdivn, divpow]) (by generalize k / 7 ^ (i + 1) = q; omega) (by have := divpow_le k (i + 1); generalize k / 7 ^ (i + 1) = q at *; omega))) (by kernel_rfl)) ?_
          refine S_val (.int .i64 ((k / 7 ^ (i + 1) : Nat) : Int)) (by kernel_rfl) (fun _ _ => by kernel_rfl) ?_
          refine S_nil ?_
          refine E_inblock ?_
          refine E_then ?_
          refine C_region ?_
          refine S_val (.int .i64 ((i : Nat) : Int)) (by kernel_rfl) (fun _ _ => by kernel_rfl) ?_
          refine S_val (.int .i64 ((i + 1 : Nat) : Int)) (by kernel_rfl) (fun _ _ => fv (v := .int .i64 (IntKind.i64.wrap (((i : Nat) : Int) + 1))) (vint (w64 (by omega) (by omega) (by omega))) (by kernel_rfl)) ?_
          refine S_val (.int .i64 ((i + 1 : Nat) : Int)) (by kernel_rfl) (fun _ _ => by kernel_rfl) ?_
          refine S_nil ?_
          exact E_norm (fun w hw => ⟨i + 1, by omega, (by kernel_rfl), (by (try dsimp only); omega), hw⟩)
        · replace hin := of_decide_eq_false hin
          obtain rfl : n = i := by omega
          refine C_exit ?_
          refine E_pass_exit ?_
          refine E_pass_exit ?_
          refine E_outblock ?_
          refine E_then ?_
          by_cases hzz : z = true
          · subst hzz
            refine C_region ?_
            refine S_val (.bool true) (by kernel_rfl) (fun _ _ => by kernel_rfl) ?_
            refine S_val (.bool true) (by kernel_rfl) (fun _ _ => by kernel_rfl) ?_
            refine S_val (.int .i64 (hv A j k n)) (by kernel_rfl) (fun _ _ => by kernel_rfl) ?_
            refine S_val (.int .i64 ((hv A j k n).tmod 7)) (by kernel_rfl) (fun _ _ => by kernel_rfl) ?_
            refine S_val (.bool (((hv A j k n).tmod 7) == 0)) (by kernel_rfl) (fun _ _ => by kernel_rfl) ?_
            refine S_val (.bool (((hv A j k n).tmod 7) == 0)) (by kernel_rfl) (fun _ _ => by kernel_rfl) ?_
            refine S_val (.bool (((hv A j k n).tmod 7) == 0)) (by kernel_rfl) (fun _ _ => by kernel_rfl) ?_
            refine S_nil ?_
            refine E_inblock ?_
            refine E_then ?_
            refine C_region ?_
            refine S_val (.int .i64 ((j : Nat) : Int)) (by kernel_rfl) (fun _ _ => by kernel_rfl) ?_
            refine S_val (.int .i64 ((j + 1 : Nat) : Int)) (by kernel_rfl) (fun _ _ => fv (v := .int .i64 (IntKind.i64.wrap (((j : Nat) : Int) + 1))) (vint (w64 (by omega) (by omega) (by omega))) (by kernel_rfl)) ?_
            refine S_val (.int .i64 ((j + 1 : Nat) : Int)) (by kernel_rfl) (fun _ _ => by kernel_rfl) ?_
            refine S_nil ?_
            exact E_norm (fun w hw => ⟨j + 1, ((hv A j k n).tmod 7) == 0, ⟨by omega, (by rw [beq_iff_eq, tmod7_nn (hv_bd A j k n).1]; exact zst hz)⟩, (by kernel_rfl), (by (try dsimp only); omega), hw⟩)
          · have hzz : z = false := by simpa using hzz
            subst hzz
            refine C_region ?_
            refine S_val (.bool false) (by kernel_rfl) (fun _ _ => by kernel_rfl) ?_
            refine S_val (.bool false) (by kernel_rfl) (fun _ _ => by kernel_rfl) ?_
            refine S_not (by kernel_rfl) ?_
            refine S_not (by kernel_rfl) ?_
            refine S_not (by kernel_rfl) ?_
            refine S_val (.bool false) (by kernel_rfl) (fun _ _ => by kernel_rfl) ?_
            refine S_val (.bool false) (by kernel_rfl) (fun _ _ => by kernel_rfl) ?_
            refine S_nil ?_
            refine E_inblock ?_
            refine E_then ?_
            refine C_region ?_
            refine S_val (.int .i64 ((j : Nat) : Int)) (by kernel_rfl) (fun _ _ => by kernel_rfl) ?_
            refine S_val (.int .i64 ((j + 1 : Nat) : Int)) (by kernel_rfl) (fun _ _ => fv (v := .int .i64 (IntKind.i64.wrap (((j : Nat) : Int) + 1))) (vint (w64 (by omega) (by omega) (by omega))) (by kernel_rfl)) ?_
            refine S_val (.int .i64 ((j + 1 : Nat) : Int)) (by kernel_rfl) (fun _ _ => by kernel_rfl) ?_
            refine S_nil ?_
            exact E_norm (fun w hw => ⟨j + 1, false, ⟨by omega, zsf hz⟩, (by kernel_rfl), (by (try dsimp only); omega), hw⟩)
      · replace hjn := of_decide_eq_false hjn
        refine C_exit ?_
        refine E_pass_exit ?_
        refine E_pass_exit ?_
        refine E_outblock ?_
        refine E_then ?_
        refine C_seq ?_
        refine C_region ?_
        refine S_val (.bool z) (by kernel_rfl) (fun _ _ => by kernel_rfl) ?_
        refine S_nil ?_
        refine E_then ?_
        refine C_if (z) (by kernel_rfl) (fun hzz => ?_) (fun hzz => ?_)
        · replace hzz : van A n k := by (obtain rfl : n = j := by omega); exact hz.1 hzz
          refine C_seq ?_
          refine C_region ?_
          refine S_val (.bool true) (by kernel_rfl) (fun _ _ => by kernel_rfl) ?_
          refine S_nil ?_
          refine E_then ?_
          refine C_ret ?_
          refine E_retblock ?_
          refine E_pass_ret ?_
          refine E_pass_ret ?_
          refine E_retblock ?_
          refine E_pass_ret ?_
          have e : hgb A n = true := hgb_t ⟨k, hk1, hk7, hzz⟩
          rw [e]
          exact pure_ret rfl (res1 Try.results44 (by kernel_rfl))
        · have hnv : ¬ van A n k := fun h => by (obtain rfl : n = j := by omega); rw [hz.2 h] at hzz; cases hzz
          refine C_skip ?_
          refine E_inblock ?_
          refine E_then ?_
          refine C_region ?_
          refine S_val (.int .i64 ((k : Nat) : Int)) (by kernel_rfl) (fun _ _ => by kernel_rfl) ?_
          refine S_val (.int .i64 ((k + 1 : Nat) : Int)) (by kernel_rfl) (fun _ _ => fv (v := .int .i64 (IntKind.i64.wrap (((k : Nat) : Int) + 1))) (vint (w64 (by omega) (by omega) (by omega))) (by kernel_rfl)) ?_
          refine S_val (.int .i64 ((k + 1 : Nat) : Int)) (by kernel_rfl) (fun _ _ => by kernel_rfl) ?_
          refine S_nil ?_
          exact E_norm (fun w hw => ⟨k + 1, ⟨by omega, by omega, fun q h1 h2 => (by rcases Nat.lt_succ_iff_lt_or_eq.1 h2 with h3 | h3; exact hno q h1 h3; subst h3; exact hnv)⟩, (by kernel_rfl), (by (try dsimp only); omega), hw⟩)
    · replace hk7 := of_decide_eq_false hk7
      refine C_exit ?_
      refine E_pass_exit ?_
      refine E_pass_exit ?_
      refine E_outblock ?_
      refine E_then ?_
      refine C_seq ?_
      refine C_region ?_
      refine S_val (.bool false) (by kernel_rfl) (fun _ _ => by kernel_rfl) ?_
      refine S_nil ?_
      refine E_then ?_
      refine C_ret ?_
      have e : hgb A n = false := hgb_f (fun ⟨q, h1, h2, h3⟩ => hno q h1 (by omega) h3)
      rw [e]
      exact pure_ret rfl (res1 Try.results44 (by kernel_rfl))
end Go.Vk
