/- What functions of the program do: walks, printed by a program of my own. -/
import Derived.Test.YthmlkndmpkcjdaaSevenA
set_option linter.unusedVariables false
set_option linter.unusedSimpArgs false
namespace Go.Vk
open Go Go.RowKit Go.Proofs
theorem c_without (w0 : World) (v : Value) (c : List Int) (x : Int) (hv : Rd w0 v 1 f7 c) (h1 : 1 ≤ c.length) (hl : c.length ≤ 35184372088832) : Gives Try.prog 86 #[v, .agg #[.int .i64 x]] w0 72 1 (c.length - 1) ((wo7 c x).flatMap f7) (fun v => v) := by
  obtain ⟨ao, cap, rfl, hx⟩ := hv.o
  unfold Gives
  refine calls_start Try.func86 rfl ?_
  refine C_seq ?_
  refine C_region ?_
  refine S_newv (fun n => .pointer (some ⟨n, 0, none⟩)) [.int .i64 x] 72 (by kernel_rfl) (fun w _ => by kernel_rfl) ?_
  intro b1 hb1 Hb1
  refine S_val (.slice none 0 0) (by kernel_rfl) (fun _ _ => by kernel_rfl) ?_
  refine S_nil ?_
  refine E_then ?_
  refine C_seq ?_
  refine C_region ?_
  refine S_val (.slice ao c.length cap) (by kernel_rfl) (fun _ _ => by kernel_rfl) ?_
  refine S_val (.int .i64 ((c.length : Nat) : Int)) (by kernel_rfl) (fun _ _ => by kernel_rfl) ?_
  refine S_val (.int .i64 ((c.length - 1 : Nat) : Int)) (by kernel_rfl) (fun _ _ => fv (v := .int .i64 (IntKind.i64.wrap (((c.length : Nat) : Int) - 1))) (vint (w64 (by omega) (by omega) (by omega))) (by kernel_rfl)) ?_
  refine S_newv (fun n => .slice (some ⟨n, 0, none⟩) (c.length - 1) (c.length - 1)) ((List.replicate (c.length - 1) 0).flatMap f7) 72 (by kernel_rfl) (mk (kl := .i64) (kc := .i64) (z := .agg #[.int .i64 0]) (i := Try.t72) (c.length - 1) (c.length - 1) Try.underlying69 (by kernel_rfl) (by kernel_rfl) rfl (by kernel_rfl) (by kernel_rfl) (by omega) (by simp only [Try.t72]; omega) (by omega) ((List.replicate (c.length - 1) 0).flatMap f7) (madeF (f := f7) (d := 0) (c.length - 1) rfl)) ?_
  intro b2 hb2 Hb2
  refine S_val (.slice (some ⟨b2, 0, none⟩) (c.length - 1) (c.length - 1)) (by kernel_rfl) (fun _ _ => by kernel_rfl) ?_
  refine S_nil ?_
  refine E_then ?_
  refine C_seq ?_
  refine C_region ?_
  refine S_newv (fun n => .pointer (some ⟨n, 0, none⟩)) [.int .i64 0] 72 (by kernel_rfl) (fun w _ => by kernel_rfl) ?_
  intro b3 hb3 Hb3
  refine S_nil ?_
  refine E_then ?_
  refine C_seq ?_
  refine C_seq ?_
  refine C_region ?_
  refine S_val (.slice (some ⟨b2, 0, none⟩) (c.length - 1) (c.length - 1)) (by kernel_rfl) (fun _ _ => by kernel_rfl) ?_
  refine S_val (.int .i64 ((c.length - 1 : Nat) : Int)) (by kernel_rfl) (fun _ _ => by kernel_rfl) ?_
  refine S_val (.int .i64 (((c.length - 1 : Nat) : Int) - 1 - ((0 : Nat) : Int))) (by kernel_rfl) (fun _ _ => fv (v := .int .i64 (IntKind.i64.wrap (((c.length - 1 : Nat) : Int) - 1))) (vint (w64 (by omega) (by omega) (by omega))) (by kernel_rfl)) ?_
  refine S_val (.int .i64 (((c.length - 1 : Nat) : Int) - 1 - ((0 : Nat) : Int))) (by kernel_rfl) (fun _ _ => by kernel_rfl) ?_
  refine S_nil ?_
  refine E_then ?_
  refine C_block ?_
  refine C_loop1 (fun (d : Nat) => (d ≤ c.length - 1)) (fun (d : Nat) => fun g => ⟨#[.slice ao c.length cap, g 1, g 2, .pointer (some ⟨b1, 0, none⟩), g 4, .slice (some ⟨b2, 0, none⟩) (c.length - 1) (c.length - 1), .pointer (some ⟨b3, 0, none⟩), .int .i64 (((c.length - 1 : Nat) : Int) - 1 - (d : Int)), g 8, g 9, g 10, g 11, g 12, g 13, g 14, g 15, g 16, g 17, g 18, g 19, g 20, g 21, g 22, g 23, g 24, g 25, g 26, g 27, g 28, g 29, g 30, g 31, g 32, g 33, g 34], []⟩) (fun (d : Nat) => [⟨b3, [.int .i64 (wcr c x (c.length - 1) d)], 72⟩, ⟨b2, ((wls c x (c.length - 1) d).flatMap f7), 72⟩, ⟨b1, [.int .i64 x], 72⟩]) (fun (d : Nat) => c.length - 1 - d) 0 (by (try dsimp only); exact Nat.zero_le _) (by kernel_rfl) (by (try dsimp only); simp [wls, wcr]) ?_
  rintro d g4 hd
  refine C_seq ?_
  refine C_seq ?_
  refine C_region ?_
  refine S_val (.int .i64 (((c.length - 1 : Nat) : Int) - 1 - (d : Int))) (by kernel_rfl) (fun _ _ => by kernel_rfl) ?_
  refine S_val (.bool (decide (((c.length - 1 : Nat) : Int) - 1 - (d : Int) ≥ 0))) (by kernel_rfl) (fun _ _ => by kernel_rfl) ?_
  refine S_nil ?_
  refine E_then ?_
  refine C_if (decide (((c.length - 1 : Nat) : Int) - 1 - (d : Int) ≥ 0)) (by kernel_rfl) (fun hc => ?_) (fun hc => ?_)
  · replace hc := of_decide_eq_true hc
    have hsub : c.length - 1 - 1 - d + 1 = c.length - 1 - d := by omega
    obtain ⟨bi5, oi6, rfl, hi7⟩ := hx.op (by omega)
    refine C_skip ?_
    refine E_then ?_
    refine C_seq ?_
    refine C_block ?_
    refine C_seq ?_
    refine C_drawn [.pure, .pure, .pure, .pure, .held, .pure, .held, .pure, .held, .held, .held, .eff] (by kernel_rfl) (by kernel_rfl) ?_
    refine D_val (.slice (some ⟨bi5, oi6, none⟩) c.length cap) (by kernel_rfl) (fun _ => by kernel_rfl) ?_
    refine D_val (.int .i64 ((c.length - 1 - 1 - d : Nat) : Int)) (by kernel_rfl) (fun _ => fv (v := .int .i64 (((c.length - 1 : Nat) : Int) - 1 - (d : Int))) (vint (by omega)) (by kernel_rfl)) ?_
    refine D_val (.int .i64 ((c.length - 1 - 1 - d + 1 : Nat) : Int)) (by kernel_rfl) (fun _ => fv (v := .int .i64 (IntKind.i64.wrap (((c.length - 1 - 1 - d : Nat) : Int) + 1))) (vint (w64 (by omega) (by omega) (by omega))) (by kernel_rfl)) ?_
    refine D_val (.pointer (some ⟨bi5, oi6 + (c.length - 1 - 1 - d + 1) * 1, none⟩)) (by kernel_rfl) (ixS (k := .i64) bi5 oi6 c.length cap 1 (c.length - 1 - 1 - d + 1) rfl (by kernel_rfl) (by kernel_rfl) Try.underlying69 Try.sizeOf72 (by omega)) ?_
    refine D_held (.agg #[.int .i64 (c.getD (c.length - 1 - 1 - d + 1) 0)]) (by kernel_rfl) (ldR f7_len 0 (c.length - 1 - 1 - d + 1) bi5 oi6 (oi6 + (c.length - 1 - 1 - d + 1) * 1) hi7 rfl (by kernel_rfl) rfl (by omega) Try.isAgg72 Try.sizeOf72) ?_
    refine D_val (.iface 72 (.agg #[.int .i64 (c.getD (c.length - 1 - 1 - d + 1) 0)])) (by kernel_rfl) (fun _ => by kernel_rfl) ?_
    refine D_held (.agg #[.int .i64 (wcr c x (c.length - 1) d)]) (by kernel_rfl) (ldN [.int .i64 (wcr c x (c.length - 1) d)] 0 b3 0 [.int .i64 (wcr c x (c.length - 1) d)] 72 rfl (by kernel_rfl) Try.isAgg72 Try.sizeOf72 (by kernel_rfl) (by kernel_rfl)) ?_
    refine D_val (.iface 72 (.agg #[.int .i64 (wcr c x (c.length - 1) d)])) (by kernel_rfl) (fun _ => by kernel_rfl) ?_
    refine D_held (.agg #[.int .i64 x]) (by kernel_rfl) (ldN [.int .i64 x] 2 b1 0 [.int .i64 x] 72 rfl (by kernel_rfl) Try.isAgg72 Try.sizeOf72 (by kernel_rfl) (by kernel_rfl)) ?_
    refine D_pure (v := .agg #[.int .i64 (mu (wcr c x (c.length - 1) d) x)]) (by kernel_rfl) (c_mul (wcr c x (c.length - 1) d) x) (fun _ => by kernel_rfl) ?_
    refine D_pure (v := .agg #[.int .i64 (ad (c.getD (c.length - 1 - 1 - d + 1) 0) (mu (wcr c x (c.length - 1) d) x))]) (by kernel_rfl) (c_add (c.getD (c.length - 1 - 1 - d + 1) 0) (mu (wcr c x (c.length - 1) d) x)) (fun _ => by kernel_rfl) ?_
    refine D_do (by kernel_rfl) (stN (L' := [⟨b3, [.int .i64 (ad (c.getD (c.length - 1 - 1 - d + 1) 0) (mu (wcr c x (c.length - 1) d) x))], 72⟩, ⟨b2, ((wls c x (c.length - 1) d).flatMap f7), 72⟩, ⟨b1, [.int .i64 x], 72⟩]) [.int .i64 (ad (c.getD (c.length - 1 - 1 - d + 1) 0) (mu (wcr c x (c.length - 1) d) x))] 0 b3 0 [.int .i64 (wcr c x (c.length - 1) d)] 72 rfl (by kernel_rfl) (by kernel_rfl) Try.sizeOf72 (by simp [Value.oneCell']) (by kernel_rfl) (by simp) (by kernel_rfl)) ?_
    refine D_nil ?_
    refine E_then ?_
    refine C_region ?_
    refine S_val (.slice (some ⟨b2, 0, none⟩) (c.length - 1) (c.length - 1)) (by kernel_rfl) (fun _ _ => by kernel_rfl) ?_
    refine S_val (.int .i64 ((c.length - 1 - 1 - d : Nat) : Int)) (by kernel_rfl) (fun _ _ => fv (v := .int .i64 (((c.length - 1 : Nat) : Int) - 1 - (d : Int))) (vint (by omega)) (by kernel_rfl)) ?_
    refine S_val (.agg #[.int .i64 (ad (c.getD (c.length - 1 - 1 - d + 1) 0) (mu (wcr c x (c.length - 1) d) x))]) (by kernel_rfl) (ldN [.int .i64 (ad (c.getD (c.length - 1 - 1 - d + 1) 0) (mu (wcr c x (c.length - 1) d) x))] 0 b3 0 [.int .i64 (ad (c.getD (c.length - 1 - 1 - d + 1) 0) (mu (wcr c x (c.length - 1) d) x))] 72 rfl (by kernel_rfl) Try.isAgg72 Try.sizeOf72 (by kernel_rfl) (by kernel_rfl)) ?_
    refine S_val (.pointer (some ⟨b2, 0 + (c.length - 1 - 1 - d) * 1, none⟩)) (by kernel_rfl) (fun w _ => (ixS (k := .i64) b2 0 (c.length - 1) (c.length - 1) 1 (c.length - 1 - 1 - d) rfl (by kernel_rfl) (by kernel_rfl) Try.underlying69 Try.sizeOf72 (by omega)) w) ?_
    refine S_do (by kernel_rfl) (stF (L' := [⟨b3, [.int .i64 (ad (c.getD (c.length - 1 - 1 - d + 1) 0) (mu (wcr c x (c.length - 1) d) x))], 72⟩, ⟨b2, (((wls c x (c.length - 1) d).set (c.length - 1 - 1 - d) (ad (c.getD (c.length - 1 - 1 - d + 1) 0) (mu (wcr c x (c.length - 1) d) x))).flatMap f7), 72⟩, ⟨b1, [.int .i64 x], 72⟩]) f7_len f7_one (wls c x (c.length - 1) d) (ad (c.getD (c.length - 1 - 1 - d + 1) 0) (mu (wcr c x (c.length - 1) d) x)) (c.length - 1 - 1 - d) (0 + (c.length - 1 - 1 - d) * 1) 1 b2 72 rfl (by kernel_rfl) (by kernel_rfl) (by omega) (by rw [wls_length]; omega) Try.sizeOf72 (by kernel_rfl) (by kernel_rfl)) ?_
    refine S_nil ?_
    refine E_inblock ?_
    refine E_then ?_
    refine C_region ?_
    refine S_val (.int .i64 (((c.length - 1 : Nat) : Int) - 1 - (d : Int))) (by kernel_rfl) (fun _ _ => by kernel_rfl) ?_
    refine S_val (.int .i64 (((c.length - 1 : Nat) : Int) - 1 - ((d + 1 : Nat) : Int))) (by kernel_rfl) (fun _ _ => fv (v := .int .i64 (IntKind.i64.wrap ((((c.length - 1 : Nat) : Int) - 1 - (d : Int)) - 1))) (vint (w64 (by omega) (by omega) (by omega))) (by kernel_rfl)) ?_
    refine S_val (.int .i64 (((c.length - 1 : Nat) : Int) - 1 - ((d + 1 : Nat) : Int))) (by kernel_rfl) (fun _ _ => by kernel_rfl) ?_
    refine S_nil ?_
    exact E_norm (fun w hw => ⟨d + 1, by omega, (by kernel_rfl), (by (try dsimp only); omega), Own.eq hw (by (try dsimp only); simp only [wls, wcr, hsub])⟩)
  · replace hc := of_decide_eq_false hc
    obtain rfl : d = c.length - 1 := by omega
    refine C_exit ?_
    refine E_pass_exit ?_
    refine E_pass_exit ?_
    refine E_outblock ?_
    refine E_then ?_
    refine C_seq ?_
    refine C_region ?_
    refine S_val (.slice (some ⟨b2, 0, none⟩) (c.length - 1) (c.length - 1)) (by kernel_rfl) (fun _ _ => by kernel_rfl) ?_
    refine S_val (.slice (some ⟨b2, 0, none⟩) (c.length - 1) (c.length - 1)) (by kernel_rfl) (fun _ _ => by kernel_rfl) ?_
    refine S_nil ?_
    refine E_then ?_
    refine C_ret ?_
    exact gives_row (mk := (fun v => v)) (Rw.whole' f7_len b2 (wls c x (c.length - 1) (c.length - 1)) (c.length - 1) (by exact wls_length _ _ _ _) (le_maxLen (by omega))) (sub1 1 (by kernel_rfl)) rfl (res1 Try.results86 (by kernel_rfl))
theorem c_product_nil1 (w0 : World) (v u : Value) (c d : List Int) (hv : Rd w0 v 1 f7 c) (hu : Rd w0 u 1 f7 d) (h : c.length = 0) (hl : c.length ≤ 17592186044416) : Gives Try.prog 85 #[v, u] w0 72 1 0 ([] : List Value) (fun v => v) := by
  obtain ⟨ao, cap, rfl, hx⟩ := hv.o
  obtain ⟨ao2, cap2, rfl, hy⟩ := hu.o
  unfold Gives
  refine calls_start Try.func85 rfl ?_
  refine C_seq ?_
  refine C_region ?_
  refine S_val (.slice none 0 0) (by kernel_rfl) (fun _ _ => by kernel_rfl) ?_
  refine S_nil ?_
  refine E_then ?_
  refine C_seq ?_
  refine C_seq ?_
  refine C_region ?_
  refine S_val (.slice ao c.length cap) (by kernel_rfl) (fun _ _ => by kernel_rfl) ?_
  refine S_val (.int .i64 ((c.length : Nat) : Int)) (by kernel_rfl) (fun _ _ => by kernel_rfl) ?_
  refine S_val (.bool true) (by kernel_rfl) (fun _ _ => fv (v := .bool (((c.length : Nat) : Int) == 0)) (vbool (beq_iff_eq.2 (by omega))) (by kernel_rfl)) ?_
  refine S_val (.bool true) (by kernel_rfl) (fun _ _ => by kernel_rfl) ?_
  refine S_not (by kernel_rfl) ?_
  refine S_not (by kernel_rfl) ?_
  refine S_not (by kernel_rfl) ?_
  refine S_val (.bool true) (by kernel_rfl) (fun _ _ => by kernel_rfl) ?_
  refine S_nil ?_
  refine E_then ?_
  refine C_true (by kernel_rfl) ?_
  refine C_seq ?_
  refine C_region ?_
  refine S_val (.slice none 0 0) (by kernel_rfl) (fun _ _ => by kernel_rfl) ?_
  refine S_nil ?_
  refine E_then ?_
  refine C_ret ?_
  refine E_pass_ret ?_
  exact gives_row (mk := (fun v => v)) (Rw.nil 72 1) (List.nil_sublist _) rfl (res1 Try.results85 (by kernel_rfl))
theorem c_product_nil2 (w0 : World) (v u : Value) (c d : List Int) (hv : Rd w0 v 1 f7 c) (hu : Rd w0 u 1 f7 d) (h0 : 0 < c.length) (h : d.length = 0) (hl : c.length ≤ 17592186044416) : Gives Try.prog 85 #[v, u] w0 72 1 0 ([] : List Value) (fun v => v) := by
  obtain ⟨ao, cap, rfl, hx⟩ := hv.o
  obtain ⟨ao2, cap2, rfl, hy⟩ := hu.o
  unfold Gives
  refine calls_start Try.func85 rfl ?_
  refine C_seq ?_
  refine C_region ?_
  refine S_val (.slice none 0 0) (by kernel_rfl) (fun _ _ => by kernel_rfl) ?_
  refine S_nil ?_
  refine E_then ?_
  refine C_seq ?_
  refine C_seq ?_
  refine C_region ?_
  refine S_val (.slice ao c.length cap) (by kernel_rfl) (fun _ _ => by kernel_rfl) ?_
  refine S_val (.int .i64 ((c.length : Nat) : Int)) (by kernel_rfl) (fun _ _ => by kernel_rfl) ?_
  refine S_val (.bool false) (by kernel_rfl) (fun _ _ => fv (v := .bool (((c.length : Nat) : Int) == 0)) (vbool (beq_eq_false_iff_ne.2 (by omega))) (by kernel_rfl)) ?_
  refine S_val (.bool false) (by kernel_rfl) (fun _ _ => by kernel_rfl) ?_
  refine S_val (.slice ao2 d.length cap2) (by kernel_rfl) (fun _ _ => by kernel_rfl) ?_
  refine S_val (.int .i64 ((d.length : Nat) : Int)) (by kernel_rfl) (fun _ _ => by kernel_rfl) ?_
  refine S_val (.bool true) (by kernel_rfl) (fun _ _ => fv (v := .bool (((d.length : Nat) : Int) == 0)) (vbool (beq_iff_eq.2 (by omega))) (by kernel_rfl)) ?_
  refine S_val (.bool true) (by kernel_rfl) (fun _ _ => by kernel_rfl) ?_
  refine S_nil ?_
  refine E_then ?_
  refine C_true (by kernel_rfl) ?_
  refine C_seq ?_
  refine C_region ?_
  refine S_val (.slice none 0 0) (by kernel_rfl) (fun _ _ => by kernel_rfl) ?_
  refine S_nil ?_
  refine E_then ?_
  refine C_ret ?_
  refine E_pass_ret ?_
  exact gives_row (mk := (fun v => v)) (Rw.nil 72 1) (List.nil_sublist _) rfl (res1 Try.results85 (by kernel_rfl))
theorem c_product (w0 : World) (v u : Value) (c d : List Int) (hv : Rd w0 v 1 f7 c) (hu : Rd w0 u 1 f7 d) (hc0 : 0 < c.length) (hd0 : 0 < d.length) (hl1 : c.length ≤ 17592186044416) (hl2 : d.length ≤ 17592186044416) : Gives Try.prog 85 #[v, u] w0 72 1 (c.length + d.length - 1) ((pout c d c.length).flatMap f7) (fun v => v) := by
  obtain ⟨ao, cap, rfl, hx⟩ := hv.o
  obtain ⟨ao2, cap2, rfl, hy⟩ := hu.o
  unfold Gives
  refine calls_start Try.func85 rfl ?_
  refine C_seq ?_
  refine C_region ?_
  refine S_val (.slice none 0 0) (by kernel_rfl) (fun _ _ => by kernel_rfl) ?_
  refine S_nil ?_
  refine E_then ?_
  refine C_seq ?_
  refine C_seq ?_
  refine C_region ?_
  refine S_val (.slice ao c.length cap) (by kernel_rfl) (fun _ _ => by kernel_rfl) ?_
  refine S_val (.int .i64 ((c.length : Nat) : Int)) (by kernel_rfl) (fun _ _ => by kernel_rfl) ?_
  refine S_val (.bool false) (by kernel_rfl) (fun _ _ => fv (v := .bool (((c.length : Nat) : Int) == 0)) (vbool (beq_eq_false_iff_ne.2 (by omega))) (by kernel_rfl)) ?_
  refine S_val (.bool false) (by kernel_rfl) (fun _ _ => by kernel_rfl) ?_
  refine S_val (.slice ao2 d.length cap2) (by kernel_rfl) (fun _ _ => by kernel_rfl) ?_
  refine S_val (.int .i64 ((d.length : Nat) : Int)) (by kernel_rfl) (fun _ _ => by kernel_rfl) ?_
  refine S_val (.bool false) (by kernel_rfl) (fun _ _ => fv (v := .bool (((d.length : Nat) : Int) == 0)) (vbool (beq_eq_false_iff_ne.2 (by omega))) (by kernel_rfl)) ?_
  refine S_val (.bool false) (by kernel_rfl) (fun _ _ => by kernel_rfl) ?_
  refine S_nil ?_
  refine E_then ?_
  refine C_false (by kernel_rfl) ?_
  refine C_skip ?_
  refine E_then ?_
  refine C_seq ?_
  refine C_region ?_
  refine S_val (.slice ao c.length cap) (by kernel_rfl) (fun _ _ => by kernel_rfl) ?_
  refine S_val (.int .i64 ((c.length : Nat) : Int)) (by kernel_rfl) (fun _ _ => by kernel_rfl) ?_
  refine S_val (.slice ao2 d.length cap2) (by kernel_rfl) (fun _ _ => by kernel_rfl) ?_
  refine S_val (.int .i64 ((d.length : Nat) : Int)) (by kernel_rfl) (fun _ _ => by kernel_rfl) ?_
  refine S_val (.int .i64 ((c.length + d.length : Nat) : Int)) (by kernel_rfl) (fun _ _ => fv (v := .int .i64 (IntKind.i64.wrap (((c.length : Nat) : Int) + ((d.length : Nat) : Int)))) (vint (w64 (by omega) (by omega) (by omega))) (by kernel_rfl)) ?_
  refine S_val (.int .i64 ((c.length + d.length - 1 : Nat) : Int)) (by kernel_rfl) (fun _ _ => fv (v := .int .i64 (IntKind.i64.wrap (((c.length + d.length : Nat) : Int) - 1))) (vint (w64 (by omega) (by omega) (by omega))) (by kernel_rfl)) ?_
  refine S_newv (fun n => .slice (some ⟨n, 0, none⟩) (c.length + d.length - 1) (c.length + d.length - 1)) ((List.replicate (c.length + d.length - 1) 0).flatMap f7) 72 (by kernel_rfl) (mk (kl := .i64) (kc := .i64) (z := .agg #[.int .i64 0]) (i := Try.t72) (c.length + d.length - 1) (c.length + d.length - 1) Try.underlying69 (by kernel_rfl) (by kernel_rfl) rfl (by kernel_rfl) (by kernel_rfl) (by omega) (by simp only [Try.t72]; omega) (by omega) ((List.replicate (c.length + d.length - 1) 0).flatMap f7) (madeF (f := f7) (d := 0) (c.length + d.length - 1) rfl)) ?_
  intro b1 hb1 Hb1
  refine S_val (.slice (some ⟨b1, 0, none⟩) (c.length + d.length - 1) (c.length + d.length - 1)) (by kernel_rfl) (fun _ _ => by kernel_rfl) ?_
  refine S_nil ?_
  refine E_then ?_
  refine C_seq ?_
  refine C_seq ?_
  refine C_region ?_
  refine S_val (.slice ao c.length cap) (by kernel_rfl) (fun _ _ => by kernel_rfl) ?_
  refine S_val (.int .i64 ((c.length : Nat) : Int)) (by kernel_rfl) (fun _ _ => by kernel_rfl) ?_
  refine S_val (.int .i64 0) (by kernel_rfl) (fun _ _ => by kernel_rfl) ?_
  refine S_nil ?_
  refine E_then ?_
  refine C_block ?_
  refine C_loop1 (fun (i : Nat) => (i ≤ c.length)) (fun (i : Nat) => fun g => ⟨#[g 0, .slice ao2 d.length cap2, g 2, g 3, g 4, .slice (some ⟨b1, 0, none⟩) (c.length + d.length - 1) (c.length + d.length - 1), g 6, g 7, g 8, g 9, g 10, g 11, g 12, g 13, g 14, g 15, g 16, g 17, g 18, g 19, g 20, g 21, g 22, g 23, g 24, .slice ao c.length cap, .int .i64 ((c.length : Nat) : Int), .int .i64 ((i : Nat) : Int), g 28, g 29, g 30, g 31, g 32, g 33, g 34, g 35, g 36, g 37, g 38, g 39, g 40, g 41, g 42, g 43, g 44, g 45, g 46, g 47, g 48, g 49, g 50, g 51, g 52, g 53, g 54, g 55, g 56, g 57, g 58], []⟩) (fun (i : Nat) => [⟨b1, ((pout c d i).flatMap f7), 72⟩]) (fun (i : Nat) => c.length - i) 0 (by (try dsimp only); exact Nat.zero_le _) (by kernel_rfl) (by (try dsimp only); kernel_rfl) ?_
  rintro i g2 hi
  refine C_seq ?_
  refine C_region ?_
  refine S_val (.bool (decide (((i : Nat) : Int) < ((c.length : Nat) : Int)))) (by kernel_rfl) (fun _ _ => by kernel_rfl) ?_
  refine S_nil ?_
  refine E_then ?_
  refine C_seq ?_
  refine C_if (decide (((i : Nat) : Int) < ((c.length : Nat) : Int))) (by kernel_rfl) (fun hc => ?_) (fun hc => ?_)
  · replace hc := of_decide_eq_true hc
    obtain ⟨bi3, oi4, rfl, hi5⟩ := hx.op (by omega)
    refine C_skip ?_
    refine E_then ?_
    refine C_seq ?_
    refine C_block ?_
    refine C_seq ?_
    refine C_region ?_
    refine S_val (.int .i64 ((i : Nat) : Int)) (by kernel_rfl) (fun _ _ => by kernel_rfl) ?_
    refine S_val (.pointer (some ⟨bi3, oi4 + i * 1, none⟩)) (by kernel_rfl) (fun w _ => (ixS (k := .i64) bi3 oi4 c.length cap 1 i rfl (by kernel_rfl) (by kernel_rfl) Try.underlying69 Try.sizeOf72 (by omega)) w) ?_
    refine S_val (.agg #[.int .i64 (c.getD i 0)]) (by kernel_rfl) (ldR f7_len 0 i bi3 oi4 (oi4 + i * 1) hi5 rfl (by kernel_rfl) rfl (by omega) Try.isAgg72 Try.sizeOf72) ?_
    refine S_newv (fun n => .pointer (some ⟨n, 0, none⟩)) [.int .i64 0] 72 (by kernel_rfl) (fun w _ => by kernel_rfl) ?_
    intro b6 hb6 Hb6
    refine S_val (.int .i64 ((i : Nat) : Int)) (by kernel_rfl) (fun _ _ => by kernel_rfl) ?_
    refine S_do (by kernel_rfl) (stN (L' := [⟨b6, [.int .i64 (c.getD i 0)], 72⟩, ⟨b1, ((pout c d i).flatMap f7), 72⟩]) [.int .i64 (c.getD i 0)] 0 b6 0 [.int .i64 0] 72 rfl (by kernel_rfl) (by kernel_rfl) Try.sizeOf72 (by simp [Value.oneCell']) (by kernel_rfl) (by simp) (by kernel_rfl)) ?_
    refine S_nil ?_
    refine E_then ?_
    refine C_seq ?_
    refine C_region ?_
    refine S_val (.slice ao2 d.length cap2) (by kernel_rfl) (fun _ _ => by kernel_rfl) ?_
    refine S_val (.int .i64 ((d.length : Nat) : Int)) (by kernel_rfl) (fun _ _ => by kernel_rfl) ?_
    refine S_val (.int .i64 0) (by kernel_rfl) (fun _ _ => by kernel_rfl) ?_
    refine S_nil ?_
    refine E_then ?_
    refine C_block ?_
    refine C_loop1 (fun (j : Nat) => (j ≤ d.length)) (fun (j : Nat) => fun g => ⟨#[g 0, .slice ao2 d.length cap2, g 2, g 3, g 4, .slice (some ⟨b1, 0, none⟩) (c.length + d.length - 1) (c.length + d.length - 1), .int .i64 ((i : Nat) : Int), .pointer (some ⟨b6, 0, none⟩), g 8, g 9, g 10, g 11, g 12, g 13, g 14, g 15, g 16, g 17, g 18, g 19, g 20, g 21, g 22, g 23, g 24, .slice (some ⟨bi3, oi4, none⟩) c.length cap, .int .i64 ((c.length : Nat) : Int), .int .i64 ((i : Nat) : Int), g 28, g 29, g 30, g 31, .slice ao2 d.length cap2, .int .i64 ((d.length : Nat) : Int), .int .i64 ((j : Nat) : Int), g 35, g 36, g 37, g 38, g 39, g 40, g 41, g 42, g 43, g 44, g 45, g 46, g 47, g 48, g 49, g 50, g 51, g 52, g 53, g 54, g 55, g 56, g 57, g 58], []⟩) (fun (j : Nat) => [⟨b6, [.int .i64 (c.getD i 0)], 72⟩, ⟨b1, ((pin c d i (pout c d i) j).flatMap f7), 72⟩]) (fun (j : Nat) => d.length - j) 0 (by (try dsimp only); exact Nat.zero_le _) (by kernel_rfl) (by (try dsimp only); kernel_rfl) ?_
    rintro j g7 hj
    refine C_seq ?_
    refine C_region ?_
    refine S_val (.bool (decide (((j : Nat) : Int) < ((d.length : Nat) : Int)))) (by kernel_rfl) (fun _ _ => by kernel_rfl) ?_
    refine S_nil ?_
    refine E_then ?_
    refine C_seq ?_
    refine C_if (decide (((j : Nat) : Int) < ((d.length : Nat) : Int))) (by kernel_rfl) (fun hc2 => ?_) (fun hc2 => ?_)
    · replace hc2 := of_decide_eq_true hc2
      obtain ⟨bi8, oi9, rfl, hi10⟩ := hy.op (by omega)
      refine C_skip ?_
      refine E_then ?_
      refine C_seq ?_
      refine C_block ?_
      refine C_seq ?_
      refine C_region ?_
      refine S_val (.int .i64 ((j : Nat) : Int)) (by kernel_rfl) (fun _ _ => by kernel_rfl) ?_
      refine S_val (.pointer (some ⟨bi8, oi9 + j * 1, none⟩)) (by kernel_rfl) (fun w _ => (ixS (k := .i64) bi8 oi9 d.length cap2 1 j rfl (by kernel_rfl) (by kernel_rfl) Try.underlying69 Try.sizeOf72 (by omega)) w) ?_
      refine S_val (.agg #[.int .i64 (d.getD j 0)]) (by kernel_rfl) (ldR f7_len 0 j bi8 oi9 (oi9 + j * 1) hi10 rfl (by kernel_rfl) rfl (by omega) Try.isAgg72 Try.sizeOf72) ?_
      refine S_newv (fun n => .pointer (some ⟨n, 0, none⟩)) [.int .i64 0] 72 (by kernel_rfl) (fun w _ => by kernel_rfl) ?_
      intro b11 hb11 Hb11
      refine S_val (.int .i64 ((j : Nat) : Int)) (by kernel_rfl) (fun _ _ => by kernel_rfl) ?_
      refine S_do (by kernel_rfl) (stN (L' := [⟨b11, [.int .i64 (d.getD j 0)], 72⟩, ⟨b6, [.int .i64 (c.getD i 0)], 72⟩, ⟨b1, ((pin c d i (pout c d i) j).flatMap f7), 72⟩]) [.int .i64 (d.getD j 0)] 0 b11 0 [.int .i64 0] 72 rfl (by kernel_rfl) (by kernel_rfl) Try.sizeOf72 (by simp [Value.oneCell']) (by kernel_rfl) (by simp) (by kernel_rfl)) ?_
      refine S_nil ?_
      refine E_then ?_
      refine C_drawn [.pure, .pure, .pure, .pure, .pure, .pure, .pure, .pure, .pure, .held, .pure, .held, .pure, .held, .held, .held, .pure, .eff] (by kernel_rfl) (by kernel_rfl) ?_
      refine D_val (.slice (some ⟨b1, 0, none⟩) (c.length + d.length - 1) (c.length + d.length - 1)) (by kernel_rfl) (fun _ => by kernel_rfl) ?_
      refine D_val (.int .i64 ((i : Nat) : Int)) (by kernel_rfl) (fun _ => by kernel_rfl) ?_
      refine D_val (.int .i64 ((j : Nat) : Int)) (by kernel_rfl) (fun _ => by kernel_rfl) ?_
      refine D_val (.int .i64 ((i + j : Nat) : Int)) (by kernel_rfl) (fun _ => fv (v := .int .i64 (IntKind.i64.wrap (((i : Nat) : Int) + ((j : Nat) : Int)))) (vint (w64 (by omega) (by omega) (by omega))) (by kernel_rfl)) ?_
      refine D_val (.slice (some ⟨b1, 0, none⟩) (c.length + d.length - 1) (c.length + d.length - 1)) (by kernel_rfl) (fun _ => by kernel_rfl) ?_
      refine D_val (.int .i64 ((i : Nat) : Int)) (by kernel_rfl) (fun _ => by kernel_rfl) ?_
      refine D_val (.int .i64 ((j : Nat) : Int)) (by kernel_rfl) (fun _ => by kernel_rfl) ?_
      refine D_val (.int .i64 ((i + j : Nat) : Int)) (by kernel_rfl) (fun _ => fv (v := .int .i64 (IntKind.i64.wrap (((i : Nat) : Int) + ((j : Nat) : Int)))) (vint (w64 (by omega) (by omega) (by omega))) (by kernel_rfl)) ?_
      refine D_val (.pointer (some ⟨b1, 0 + (i + j) * 1, none⟩)) (by kernel_rfl) (ixS (k := .i64) b1 0 (c.length + d.length - 1) (c.length + d.length - 1) 1 (i + j) rfl (by kernel_rfl) (by kernel_rfl) Try.underlying69 Try.sizeOf72 (by omega)) ?_
      refine D_held (.agg #[.int .i64 ((pin c d i (pout c d i) j).getD (i + j) 0)]) (by kernel_rfl) (ldF f7_len (pin c d i (pout c d i) j) 0 (i + j) (0 + (i + j) * 1) 2 b1 72 rfl (by kernel_rfl) (by omega) (by rw [pin_length, pout_length]; omega) Try.isAgg72 Try.sizeOf72 (by kernel_rfl)) ?_
      refine D_val (.iface 72 (.agg #[.int .i64 ((pin c d i (pout c d i) j).getD (i + j) 0)])) (by kernel_rfl) (fun _ => by kernel_rfl) ?_
      refine D_held (.agg #[.int .i64 (c.getD i 0)]) (by kernel_rfl) (ldN [.int .i64 (c.getD i 0)] 1 b6 0 [.int .i64 (c.getD i 0)] 72 rfl (by kernel_rfl) Try.isAgg72 Try.sizeOf72 (by kernel_rfl) (by kernel_rfl)) ?_
      refine D_val (.iface 72 (.agg #[.int .i64 (c.getD i 0)])) (by kernel_rfl) (fun _ => by kernel_rfl) ?_
      refine D_held (.agg #[.int .i64 (d.getD j 0)]) (by kernel_rfl) (ldN [.int .i64 (d.getD j 0)] 0 b11 0 [.int .i64 (d.getD j 0)] 72 rfl (by kernel_rfl) Try.isAgg72 Try.sizeOf72 (by kernel_rfl) (by kernel_rfl)) ?_
      refine D_pure (v := .agg #[.int .i64 (mu (c.getD i 0) (d.getD j 0))]) (by kernel_rfl) (c_mul (c.getD i 0) (d.getD j 0)) (fun _ => by kernel_rfl) ?_
      refine D_pure (v := .agg #[.int .i64 (ad ((pin c d i (pout c d i) j).getD (i + j) 0) (mu (c.getD i 0) (d.getD j 0)))]) (by kernel_rfl) (c_add ((pin c d i (pout c d i) j).getD (i + j) 0) (mu (c.getD i 0) (d.getD j 0))) (fun _ => by kernel_rfl) ?_
      refine D_val (.pointer (some ⟨b1, 0 + (i + j) * 1, none⟩)) (by kernel_rfl) (ixS (k := .i64) b1 0 (c.length + d.length - 1) (c.length + d.length - 1) 1 (i + j) rfl (by kernel_rfl) (by kernel_rfl) Try.underlying69 Try.sizeOf72 (by omega)) ?_
      refine D_do (by kernel_rfl) (stF (L' := [⟨b11, [.int .i64 (d.getD j 0)], 72⟩, ⟨b6, [.int .i64 (c.getD i 0)], 72⟩, ⟨b1, (((pin c d i (pout c d i) j).set (i + j) (ad ((pin c d i (pout c d i) j).getD (i + j) 0) (mu (c.getD i 0) (d.getD j 0)))).flatMap f7), 72⟩]) f7_len f7_one (pin c d i (pout c d i) j) (ad ((pin c d i (pout c d i) j).getD (i + j) 0) (mu (c.getD i 0) (d.getD j 0))) (i + j) (0 + (i + j) * 1) 2 b1 72 rfl (by kernel_rfl) (by kernel_rfl) (by omega) (by rw [pin_length, pout_length]; omega) Try.sizeOf72 (by kernel_rfl) (by kernel_rfl)) ?_
      refine D_nil ?_
      refine E_inblock ?_
      refine E_then ?_
      refine C_region ?_
      refine S_val (.int .i64 ((j + 1 : Nat) : Int)) (by kernel_rfl) (fun _ _ => fv (v := .int .i64 (IntKind.i64.wrap (((j : Nat) : Int) + 1))) (vint (w64 (by omega) (by omega) (by omega))) (by kernel_rfl)) ?_
      refine S_val (.int .i64 ((j + 1 : Nat) : Int)) (by kernel_rfl) (fun _ _ => by kernel_rfl) ?_
      refine S_nil ?_
      exact E_norm (fun w hw => ⟨j + 1, by omega, (by kernel_rfl), (by (try dsimp only); omega), hw.tail⟩)
    · replace hc2 := of_decide_eq_false hc2
      obtain rfl : j = d.length := by omega
      refine C_exit ?_
      refine E_pass_exit ?_
      refine E_pass_exit ?_
      refine E_outblock ?_
      refine E_inblock ?_
      refine E_then ?_
      refine C_region ?_
      refine S_val (.int .i64 ((i + 1 : Nat) : Int)) (by kernel_rfl) (fun _ _ => fv (v := .int .i64 (IntKind.i64.wrap (((i : Nat) : Int) + 1))) (vint (w64 (by omega) (by omega) (by omega))) (by kernel_rfl)) ?_
      refine S_val (.int .i64 ((i + 1 : Nat) : Int)) (by kernel_rfl) (fun _ _ => by kernel_rfl) ?_
      refine S_nil ?_
      exact E_norm (fun w hw => ⟨i + 1, by omega, (by kernel_rfl), (by (try dsimp only); omega), hw.tail⟩)
  · replace hc := of_decide_eq_false hc
    obtain rfl : i = c.length := by omega
    refine C_exit ?_
    refine E_pass_exit ?_
    refine E_pass_exit ?_
    refine E_outblock ?_
    refine E_then ?_
    refine C_seq ?_
    refine C_region ?_
    refine S_val (.slice (some ⟨b1, 0, none⟩) (c.length + d.length - 1) (c.length + d.length - 1)) (by kernel_rfl) (fun _ _ => by kernel_rfl) ?_
    refine S_val (.slice (some ⟨b1, 0, none⟩) (c.length + d.length - 1) (c.length + d.length - 1)) (by kernel_rfl) (fun _ _ => by kernel_rfl) ?_
    refine S_nil ?_
    refine E_then ?_
    refine C_ret ?_
    exact gives_row (mk := (fun v => v)) (Rw.whole' f7_len b1 (pout c d c.length) (c.length + d.length - 1) (by exact pout_length _ _ _) (le_maxLen (by omega))) (sub1 0 (by kernel_rfl)) rfl (res1 Try.results85 (by kernel_rfl))
end Go.Vk
