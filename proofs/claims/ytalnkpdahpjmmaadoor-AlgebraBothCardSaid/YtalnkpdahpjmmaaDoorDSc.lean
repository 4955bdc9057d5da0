/- What functions of the program do: walks, printed by a program of my own. -/
import Derived.Test.YtalnkpdahpjmmaaDoorWs
import Derived.Test.YtalnkpdahpjmmaaDoorScP
import Derived.Test.YtalnkpdahpjmmaaDoorProg
set_option linter.unusedVariables false
set_option linter.unusedSimpArgs false
namespace Go.Vk
open Go Go.RowKit Go.Proofs Go.Vk.Num
def tbS : List Value := [.int .u64 6346243789798364141, .int .u64 1503914060200516822, .int .u64 0, .int .u64 1152921504606846976, .int .u64 15486807595281847581, .int .u64 14334777244411350896, .int .u64 18446744073709551614, .int .u64 1152921504606846975, .int .u64 11819153939886771969, .int .u64 14991950615390032711, .int .u64 14910419812499177061, .int .u64 259310039853996605, .int .u64 6346243789798364139, .int .u64 1503914060200516822, .int .u64 0, .int .u64 1152921504606846976]
set_option linter.unusedVariables false
theorem x_add (x y c : Nat) (hc : c ≤ 1) (w : World) : (callFunc 52 #[.int .u64 (x : Int), .int .u64 (y : Int), .int .u64 (c : Int)]).run Tryd.prog w = .ok (.value (.tuple #[wd ((x + y + c) % 18446744073709551616), wd ((x + y + c) / 18446744073709551616)])) w := carry_add Tryd.func52 (by kernel_rfl) (by kernel_rfl) (by kernel_rfl) (by kernel_rfl) x y c hc w
theorem x_sub (x y c : Nat) (hc : c ≤ 1) (w : World) : (callFunc 73 #[.int .u64 (x : Int), .int .u64 (y : Int), .int .u64 (c : Int)]).run Tryd.prog w = .ok (.value (.tuple #[wd ((x + 18446744073709551616 - y - c) % 18446744073709551616), wd (if x < y + c then 1 else 0)])) w := carry_sub Tryd.func73 (by kernel_rfl) (by kernel_rfl) (by kernel_rfl) (by kernel_rfl) x y c hc w
theorem c_minus (a b : Nat) (ha : a < W256) (hb : b < W256) : Pure Tryd.prog 53 #[sc4 a, sc4 b] (.tuple #[sc4 (mi a b), wd (bw a b)]) := by
  refine pure_of Tryd.func53 rfl (fun w0 => ?_)
  refine C_seq ?_
  refine C_region ?_
  refine S_newv (fun nb0 => pt nb0 0) [wd (lb a 0), wd (lb a 1), wd (lb a 2), wd (lb a 3)] 34 (by kernel_rfl) (fun w _ => by kernel_rfl) ?_
  intro b1 hb1 Hb1
  refine S_newv (fun nb0 => pt nb0 0) [wd (lb b 0), wd (lb b 1), wd (lb b 2), wd (lb b 3)] 34 (by kernel_rfl) (fun w _ => by kernel_rfl) ?_
  intro b2 hb2 Hb2
  refine S_newv (fun nb0 => pt nb0 0) [.int .u64 0, .int .u64 0, .int .u64 0, .int .u64 0] 34 (by kernel_rfl) (fun w _ => by kernel_rfl) ?_
  intro b3 hb3 Hb3
  refine S_v (.int .u64 0) ?_
  refine S_nil ?_
  refine E_then ?_
  refine C_seq ?_
  refine C_region ?_
  refine S_newv (fun nb0 => pt nb0 0) [.int .u64 0, .int .u64 0, .int .u64 0, .int .u64 0] 34 (by kernel_rfl) (fun w _ => by kernel_rfl) ?_
  intro b4 hb4 Hb4
  refine S_nil ?_
  refine E_then ?_
  refine C_seq ?_
  refine C_region ?_
  refine S_v (.int .u64 0) ?_
  refine S_nil ?_
  refine E_then ?_
  refine C_seq ?_
  refine C_seq ?_
  refine C_region ?_
  refine S_v (.int .i64 0) ?_
  refine S_nil ?_
  refine E_then ?_
  refine C_block ?_
  refine C_unroll 5 ?_
  refine R_succ ?_
  refine C_forget (fun g => ⟨#[g 0, g 1, pt b1 0, pt b2 0, pt b3 0, g 5, pt b4 0, .int .u64 0, g 8, .int .i64 0, g 10, g 11, g 12, g 13, g 14, g 15, g 16, g 17, g 18, g 19, g 20, g 21, g 22, g 23, g 24, g 25, g 26, g 27], []⟩) (by kernel_rfl) ?_
  intro g
  refine C_seq ?_
  refine C_region ?_
  refine S_v (.bool true) ?_
  refine S_nil ?_
  refine E_then ?_
  refine C_seq ?_
  refine C_true (by kernel_rfl) ?_
  refine C_skip ?_
  refine E_then ?_
  refine C_seq ?_
  refine C_block ?_
  refine C_seq ?_
  refine C_region ?_
  refine S_v (.int .i64 0) ?_
  refine S_v (.int .i64 0) ?_
  refine S_nil ?_
  refine E_then ?_
  refine C_drawn [.pure, .pure, .pure, .held, .pure, .pure, .held, .pure, .pure, .pure, .pure, .pure, .pure, .eff, .pure] (by kernel_rfl) (by kernel_rfl) ?_
  refine D_v (.int .i64 0) ?_
  refine D_v (.int .i64 0) ?_
  refine D_v (pt b1 0) ?_
  refine D_held (wd (lb a 0)) (by kernel_rfl) (ld1 3 b1 0 [wd (lb a 0), wd (lb a 1), wd (lb a 2), wd (lb a 3)] 34 rfl (by kernel_rfl) Tryd.isAgg29 (by kernel_rfl) (by kernel_rfl)) ?_
  refine D_v (.int .i64 0) ?_
  refine D_v (pt b2 0) ?_
  refine D_held (wd (lb b 0)) (by kernel_rfl) (ld1 2 b2 0 [wd (lb b 0), wd (lb b 1), wd (lb b 2), wd (lb b 3)] 34 rfl (by kernel_rfl) Tryd.isAgg29 (by kernel_rfl) (by kernel_rfl)) ?_
  refine D_v (.int .u64 0) ?_
  obtain ⟨x5, k6, ex5, lx5, ok6, hx5, hk6⟩ := subc_ex (lb a 0) (lb b 0) 0 (lb_lt a 0) (lb_lt b 0) (by decide)
  refine D_val (.tuple #[wd x5, wd k6]) (by kernel_rfl) (fun w => fv (v := .tuple #[wd (((lb a 0) + 18446744073709551616 - (lb b 0) - 0) % 18446744073709551616), wd ((if (lb a 0) < (lb b 0) + 0 then 1 else 0))]) (by rw [hx5, hk6]) ((clv (x := .func 73) rfl (by kernel_rfl) (by kernel_rfl) (by kernel_rfl) (x_sub (lb a 0) (lb b 0) 0 (by decide))) w)) ?_
  refine D_v (.tuple #[wd x5, wd k6]) ?_
  refine D_v (wd x5) ?_
  refine D_v (wd k6) ?_
  refine D_v (pt b4 0) ?_
  refine D_do (by kernel_rfl) (st1 (v := wd x5) (L' := [⟨b4, [wd x5, .int .u64 0, .int .u64 0, .int .u64 0], 34⟩, ⟨b3, [.int .u64 0, .int .u64 0, .int .u64 0, .int .u64 0], 34⟩, ⟨b2, [wd (lb b 0), wd (lb b 1), wd (lb b 2), wd (lb b 3)], 34⟩, ⟨b1, [wd (lb a 0), wd (lb a 1), wd (lb a 2), wd (lb a 3)], 34⟩]) 0 b4 0 [.int .u64 0, .int .u64 0, .int .u64 0, .int .u64 0] 34 rfl (by kernel_rfl) (by kernel_rfl) Tryd.sizeOf29 (by rfl) (by kernel_rfl) (by simp) (by kernel_rfl)) ?_
  refine D_v (wd k6) ?_
  refine D_nil ?_
  refine E_inblock ?_
  refine E_then ?_
  refine C_region ?_
  refine S_v (.int .i64 1) ?_
  refine S_v (.int .i64 1) ?_
  refine S_nil ?_
  refine E_rounds ?_
  refine R_succ ?_
  refine C_forget (fun g => ⟨#[g 0, g 1, pt b1 0, pt b2 0, pt b3 0, g 5, pt b4 0, wd k6, g 8, .int .i64 1, g 10, g 11, g 12, g 13, g 14, g 15, g 16, g 17, g 18, g 19, g 20, g 21, g 22, g 23, g 24, g 25, g 26, g 27], []⟩) (by kernel_rfl) ?_
  intro g
  refine C_seq ?_
  refine C_region ?_
  refine S_v (.bool true) ?_
  refine S_nil ?_
  refine E_then ?_
  refine C_seq ?_
  refine C_true (by kernel_rfl) ?_
  refine C_skip ?_
  refine E_then ?_
  refine C_seq ?_
  refine C_block ?_
  refine C_seq ?_
  refine C_region ?_
  refine S_v (.int .i64 1) ?_
  refine S_v (.int .i64 1) ?_
  refine S_nil ?_
  refine E_then ?_
  refine C_drawn [.pure, .pure, .pure, .held, .pure, .pure, .held, .pure, .pure, .pure, .pure, .pure, .pure, .eff, .pure] (by kernel_rfl) (by kernel_rfl) ?_
  refine D_v (.int .i64 1) ?_
  refine D_v (.int .i64 1) ?_
  refine D_v (pt b1 1) ?_
  refine D_held (wd (lb a 1)) (by kernel_rfl) (ld1 3 b1 1 [wd (lb a 0), wd (lb a 1), wd (lb a 2), wd (lb a 3)] 34 rfl (by kernel_rfl) Tryd.isAgg29 (by kernel_rfl) (by kernel_rfl)) ?_
  refine D_v (.int .i64 1) ?_
  refine D_v (pt b2 1) ?_
  refine D_held (wd (lb b 1)) (by kernel_rfl) (ld1 2 b2 1 [wd (lb b 0), wd (lb b 1), wd (lb b 2), wd (lb b 3)] 34 rfl (by kernel_rfl) Tryd.isAgg29 (by kernel_rfl) (by kernel_rfl)) ?_
  refine D_v (wd k6) ?_
  obtain ⟨x7, k8, ex7, lx7, ok8, hx7, hk8⟩ := subc_ex (lb a 1) (lb b 1) k6 (lb_lt a 1) (lb_lt b 1) ok6
  refine D_val (.tuple #[wd x7, wd k8]) (by kernel_rfl) (fun w => fv (v := .tuple #[wd (((lb a 1) + 18446744073709551616 - (lb b 1) - k6) % 18446744073709551616), wd ((if (lb a 1) < (lb b 1) + k6 then 1 else 0))]) (by rw [hx7, hk8]) ((clv (x := .func 73) rfl (by kernel_rfl) (by kernel_rfl) (by kernel_rfl) (x_sub (lb a 1) (lb b 1) k6 ok6)) w)) ?_
  refine D_v (.tuple #[wd x7, wd k8]) ?_
  refine D_v (wd x7) ?_
  refine D_v (wd k8) ?_
  refine D_v (pt b4 1) ?_
  refine D_do (by kernel_rfl) (st1 (v := wd x7) (L' := [⟨b4, [wd x5, wd x7, .int .u64 0, .int .u64 0], 34⟩, ⟨b3, [.int .u64 0, .int .u64 0, .int .u64 0, .int .u64 0], 34⟩, ⟨b2, [wd (lb b 0), wd (lb b 1), wd (lb b 2), wd (lb b 3)], 34⟩, ⟨b1, [wd (lb a 0), wd (lb a 1), wd (lb a 2), wd (lb a 3)], 34⟩]) 0 b4 1 [wd x5, .int .u64 0, .int .u64 0, .int .u64 0] 34 rfl (by kernel_rfl) (by kernel_rfl) Tryd.sizeOf29 (by rfl) (by kernel_rfl) (by simp) (by kernel_rfl)) ?_
  refine D_v (wd k8) ?_
  refine D_nil ?_
  refine E_inblock ?_
  refine E_then ?_
  refine C_region ?_
  refine S_v (.int .i64 2) ?_
  refine S_v (.int .i64 2) ?_
  refine S_nil ?_
  refine E_rounds ?_
  refine R_succ ?_
  refine C_forget (fun g => ⟨#[g 0, g 1, pt b1 0, pt b2 0, pt b3 0, g 5, pt b4 0, wd k8, g 8, .int .i64 2, g 10, g 11, g 12, g 13, g 14, g 15, g 16, g 17, g 18, g 19, g 20, g 21, g 22, g 23, g 24, g 25, g 26, g 27], []⟩) (by kernel_rfl) ?_
  intro g
  refine C_seq ?_
  refine C_region ?_
  refine S_v (.bool true) ?_
  refine S_nil ?_
  refine E_then ?_
  refine C_seq ?_
  refine C_true (by kernel_rfl) ?_
  refine C_skip ?_
  refine E_then ?_
  refine C_seq ?_
  refine C_block ?_
  refine C_seq ?_
  refine C_region ?_
  refine S_v (.int .i64 2) ?_
  refine S_v (.int .i64 2) ?_
  refine S_nil ?_
  refine E_then ?_
  refine C_drawn [.pure, .pure, .pure, .held, .pure, .pure, .held, .pure, .pure, .pure, .pure, .pure, .pure, .eff, .pure] (by kernel_rfl) (by kernel_rfl) ?_
  refine D_v (.int .i64 2) ?_
  refine D_v (.int .i64 2) ?_
  refine D_v (pt b1 2) ?_
  refine D_held (wd (lb a 2)) (by kernel_rfl) (ld1 3 b1 2 [wd (lb a 0), wd (lb a 1), wd (lb a 2), wd (lb a 3)] 34 rfl (by kernel_rfl) Tryd.isAgg29 (by kernel_rfl) (by kernel_rfl)) ?_
  refine D_v (.int .i64 2) ?_
  refine D_v (pt b2 2) ?_
  refine D_held (wd (lb b 2)) (by kernel_rfl) (ld1 2 b2 2 [wd (lb b 0), wd (lb b 1), wd (lb b 2), wd (lb b 3)] 34 rfl (by kernel_rfl) Tryd.isAgg29 (by kernel_rfl) (by kernel_rfl)) ?_
  refine D_v (wd k8) ?_
  obtain ⟨x9, k10, ex9, lx9, ok10, hx9, hk10⟩ := subc_ex (lb a 2) (lb b 2) k8 (lb_lt a 2) (lb_lt b 2) ok8
  refine D_val (.tuple #[wd x9, wd k10]) (by kernel_rfl) (fun w => fv (v := .tuple #[wd (((lb a 2) + 18446744073709551616 - (lb b 2) - k8) % 18446744073709551616), wd ((if (lb a 2) < (lb b 2) + k8 then 1 else 0))]) (by rw [hx9, hk10]) ((clv (x := .func 73) rfl (by kernel_rfl) (by kernel_rfl) (by kernel_rfl) (x_sub (lb a 2) (lb b 2) k8 ok8)) w)) ?_
  refine D_v (.tuple #[wd x9, wd k10]) ?_
  refine D_v (wd x9) ?_
  refine D_v (wd k10) ?_
  refine D_v (pt b4 2) ?_
  refine D_do (by kernel_rfl) (st1 (v := wd x9) (L' := [⟨b4, [wd x5, wd x7, wd x9, .int .u64 0], 34⟩, ⟨b3, [.int .u64 0, .int .u64 0, .int .u64 0, .int .u64 0], 34⟩, ⟨b2, [wd (lb b 0), wd (lb b 1), wd (lb b 2), wd (lb b 3)], 34⟩, ⟨b1, [wd (lb a 0), wd (lb a 1), wd (lb a 2), wd (lb a 3)], 34⟩]) 0 b4 2 [wd x5, wd x7, .int .u64 0, .int .u64 0] 34 rfl (by kernel_rfl) (by kernel_rfl) Tryd.sizeOf29 (by rfl) (by kernel_rfl) (by simp) (by kernel_rfl)) ?_
  refine D_v (wd k10) ?_
  refine D_nil ?_
  refine E_inblock ?_
  refine E_then ?_
  refine C_region ?_
  refine S_v (.int .i64 3) ?_
  refine S_v (.int .i64 3) ?_
  refine S_nil ?_
  refine E_rounds ?_
  refine R_succ ?_
  refine C_forget (fun g => ⟨#[g 0, g 1, pt b1 0, pt b2 0, pt b3 0, g 5, pt b4 0, wd k10, g 8, .int .i64 3, g 10, g 11, g 12, g 13, g 14, g 15, g 16, g 17, g 18, g 19, g 20, g 21, g 22, g 23, g 24, g 25, g 26, g 27], []⟩) (by kernel_rfl) ?_
  intro g
  refine C_seq ?_
  refine C_region ?_
  refine S_v (.bool true) ?_
  refine S_nil ?_
  refine E_then ?_
  refine C_seq ?_
  refine C_true (by kernel_rfl) ?_
  refine C_skip ?_
  refine E_then ?_
  refine C_seq ?_
  refine C_block ?_
  refine C_seq ?_
  refine C_region ?_
  refine S_v (.int .i64 3) ?_
  refine S_v (.int .i64 3) ?_
  refine S_nil ?_
  refine E_then ?_
  refine C_drawn [.pure, .pure, .pure, .held, .pure, .pure, .held, .pure, .pure, .pure, .pure, .pure, .pure, .eff, .pure] (by kernel_rfl) (by kernel_rfl) ?_
  refine D_v (.int .i64 3) ?_
  refine D_v (.int .i64 3) ?_
  refine D_v (pt b1 3) ?_
  refine D_held (wd (lb a 3)) (by kernel_rfl) (ld1 3 b1 3 [wd (lb a 0), wd (lb a 1), wd (lb a 2), wd (lb a 3)] 34 rfl (by kernel_rfl) Tryd.isAgg29 (by kernel_rfl) (by kernel_rfl)) ?_
  refine D_v (.int .i64 3) ?_
  refine D_v (pt b2 3) ?_
  refine D_held (wd (lb b 3)) (by kernel_rfl) (ld1 2 b2 3 [wd (lb b 0), wd (lb b 1), wd (lb b 2), wd (lb b 3)] 34 rfl (by kernel_rfl) Tryd.isAgg29 (by kernel_rfl) (by kernel_rfl)) ?_
  refine D_v (wd k10) ?_
  obtain ⟨x11, k12, ex11, lx11, ok12, hx11, hk12⟩ := subc_ex (lb a 3) (lb b 3) k10 (lb_lt a 3) (lb_lt b 3) ok10
  refine D_val (.tuple #[wd x11, wd k12]) (by kernel_rfl) (fun w => fv (v := .tuple #[wd (((lb a 3) + 18446744073709551616 - (lb b 3) - k10) % 18446744073709551616), wd ((if (lb a 3) < (lb b 3) + k10 then 1 else 0))]) (by rw [hx11, hk12]) ((clv (x := .func 73) rfl (by kernel_rfl) (by kernel_rfl) (by kernel_rfl) (x_sub (lb a 3) (lb b 3) k10 ok10)) w)) ?_
  refine D_v (.tuple #[wd x11, wd k12]) ?_
  refine D_v (wd x11) ?_
  refine D_v (wd k12) ?_
  refine D_v (pt b4 3) ?_
  refine D_do (by kernel_rfl) (st1 (v := wd x11) (L' := [⟨b4, [wd x5, wd x7, wd x9, wd x11], 34⟩, ⟨b3, [.int .u64 0, .int .u64 0, .int .u64 0, .int .u64 0], 34⟩, ⟨b2, [wd (lb b 0), wd (lb b 1), wd (lb b 2), wd (lb b 3)], 34⟩, ⟨b1, [wd (lb a 0), wd (lb a 1), wd (lb a 2), wd (lb a 3)], 34⟩]) 0 b4 3 [wd x5, wd x7, wd x9, .int .u64 0] 34 rfl (by kernel_rfl) (by kernel_rfl) Tryd.sizeOf29 (by rfl) (by kernel_rfl) (by simp) (by kernel_rfl)) ?_
  refine D_v (wd k12) ?_
  refine D_nil ?_
  refine E_inblock ?_
  refine E_then ?_
  refine C_region ?_
  refine S_v (.int .i64 4) ?_
  refine S_v (.int .i64 4) ?_
  refine S_nil ?_
  refine E_rounds ?_
  refine R_succ ?_
  refine C_forget (fun g => ⟨#[g 0, g 1, pt b1 0, pt b2 0, pt b3 0, g 5, pt b4 0, wd k12, g 8, .int .i64 4, g 10, g 11, g 12, g 13, g 14, g 15, g 16, g 17, g 18, g 19, g 20, g 21, g 22, g 23, g 24, g 25, g 26, g 27], []⟩) (by kernel_rfl) ?_
  intro g
  refine C_seq ?_
  refine C_region ?_
  refine S_v (.bool false) ?_
  refine S_nil ?_
  refine E_then ?_
  refine C_seq ?_
  refine C_false (by kernel_rfl) ?_
  refine C_exit ?_
  refine E_pass_exit ?_
  refine E_pass_exit ?_
  refine E_outblock ?_
  refine E_then ?_
  refine C_seq ?_
  refine C_region ?_
  refine S_val (.agg #[wd x5, wd x7, wd x9, wd x11]) (by kernel_rfl) (ldN [wd x5, wd x7, wd x9, wd x11] 0 b4 0 [wd x5, wd x7, wd x9, wd x11] 34 rfl (by kernel_rfl) Tryd.isAgg34 Tryd.sizeOf34 (by kernel_rfl) (by kernel_rfl)) ?_
  refine S_v (wd k12) ?_
  refine S_do (by kernel_rfl) (stN (L' := [⟨b4, [wd x5, wd x7, wd x9, wd x11], 34⟩, ⟨b3, [wd x5, wd x7, wd x9, wd x11], 34⟩, ⟨b2, [wd (lb b 0), wd (lb b 1), wd (lb b 2), wd (lb b 3)], 34⟩, ⟨b1, [wd (lb a 0), wd (lb a 1), wd (lb a 2), wd (lb a 3)], 34⟩]) [wd x5, wd x7, wd x9, wd x11] 1 b3 0 [.int .u64 0, .int .u64 0, .int .u64 0, .int .u64 0] 34 rfl (by kernel_rfl) (by kernel_rfl) Tryd.sizeOf34 (by simp [Value.oneCell']) (by kernel_rfl) (by simp) (by kernel_rfl)) ?_
  refine S_v (wd k12) ?_
  refine S_nil ?_
  refine E_then ?_
  refine C_ret ?_
  have E : x5 + 18446744073709551616 * x7 + 340282366920938463463374607431768211456 * x9 + 6277101735386680763835789423207666416102355444464034512896 * x11 + b = a + W256 * k12 := by have A := lb_sum a ha; have B := lb_sum b hb; unfold W256 at *; omega
  have HX : x5 + 18446744073709551616 * x7 + 340282366920938463463374607431768211456 * x9 + 6277101735386680763835789423207666416102355444464034512896 * x11 < W256 := by unfold W256; omega
  obtain ⟨q1, q2⟩ := minus_law ha hb HX ok12 E
  rw [← q2, sc_join lx5 lx7 lx9 lx11 q1]
  exact pure_ret rfl (resM (rs := [.cell 4 34, .tmp 5]) Tryd.results53 [.agg #[wd x5, wd x7, wd x9, wd x11], wd k12] (by simp) (fun w hO => (.cell (by kernel_rfl) (resCell hO [wd x5, wd x7, wd x9, wd x11] 1 b3 34 Tryd.isAgg34 Tryd.sizeOf34 (by kernel_rfl)) (.tmp (by kernel_rfl) .nil))))
theorem c_plus (a b : Nat) (ha : a < W256) (hb : b < W256) : Pure Tryd.prog 54 #[sc4 a, sc4 b] (.tuple #[sc4 (pl a b), wd ((a + b) / W256)]) := by
  refine pure_of Tryd.func54 rfl (fun w0 => ?_)
  refine C_seq ?_
  refine C_region ?_
  refine S_newv (fun nb0 => pt nb0 0) [wd (lb a 0), wd (lb a 1), wd (lb a 2), wd (lb a 3)] 34 (by kernel_rfl) (fun w _ => by kernel_rfl) ?_
  intro b1 hb1 Hb1
  refine S_newv (fun nb0 => pt nb0 0) [wd (lb b 0), wd (lb b 1), wd (lb b 2), wd (lb b 3)] 34 (by kernel_rfl) (fun w _ => by kernel_rfl) ?_
  intro b2 hb2 Hb2
  refine S_newv (fun nb0 => pt nb0 0) [.int .u64 0, .int .u64 0, .int .u64 0, .int .u64 0] 34 (by kernel_rfl) (fun w _ => by kernel_rfl) ?_
  intro b3 hb3 Hb3
  refine S_v (.int .u64 0) ?_
  refine S_nil ?_
  refine E_then ?_
  refine C_seq ?_
  refine C_region ?_
  refine S_newv (fun nb0 => pt nb0 0) [.int .u64 0, .int .u64 0, .int .u64 0, .int .u64 0] 34 (by kernel_rfl) (fun w _ => by kernel_rfl) ?_
  intro b4 hb4 Hb4
  refine S_nil ?_
  refine E_then ?_
  refine C_seq ?_
  refine C_region ?_
  refine S_v (.int .u64 0) ?_
  refine S_nil ?_
  refine E_then ?_
  refine C_seq ?_
  refine C_seq ?_
  refine C_region ?_
  refine S_v (.int .i64 0) ?_
  refine S_nil ?_
  refine E_then ?_
  refine C_block ?_
  refine C_unroll 5 ?_
  refine R_succ ?_
  refine C_forget (fun g => ⟨#[g 0, g 1, pt b1 0, pt b2 0, pt b3 0, g 5, pt b4 0, .int .u64 0, g 8, .int .i64 0, g 10, g 11, g 12, g 13, g 14, g 15, g 16, g 17, g 18, g 19, g 20, g 21, g 22, g 23, g 24, g 25, g 26, g 27], []⟩) (by kernel_rfl) ?_
  intro g
  refine C_seq ?_
  refine C_region ?_
  refine S_v (.bool true) ?_
  refine S_nil ?_
  refine E_then ?_
  refine C_seq ?_
  refine C_true (by kernel_rfl) ?_
  refine C_skip ?_
  refine E_then ?_
  refine C_seq ?_
  refine C_block ?_
  refine C_seq ?_
  refine C_region ?_
  refine S_v (.int .i64 0) ?_
  refine S_v (.int .i64 0) ?_
  refine S_nil ?_
  refine E_then ?_
  refine C_drawn [.pure, .pure, .pure, .held, .pure, .pure, .held, .pure, .pure, .pure, .pure, .pure, .pure, .eff, .pure] (by kernel_rfl) (by kernel_rfl) ?_
  refine D_v (.int .i64 0) ?_
  refine D_v (.int .i64 0) ?_
  refine D_v (pt b1 0) ?_
  refine D_held (wd (lb a 0)) (by kernel_rfl) (ld1 3 b1 0 [wd (lb a 0), wd (lb a 1), wd (lb a 2), wd (lb a 3)] 34 rfl (by kernel_rfl) Tryd.isAgg29 (by kernel_rfl) (by kernel_rfl)) ?_
  refine D_v (.int .i64 0) ?_
  refine D_v (pt b2 0) ?_
  refine D_held (wd (lb b 0)) (by kernel_rfl) (ld1 2 b2 0 [wd (lb b 0), wd (lb b 1), wd (lb b 2), wd (lb b 3)] 34 rfl (by kernel_rfl) Tryd.isAgg29 (by kernel_rfl) (by kernel_rfl)) ?_
  refine D_v (.int .u64 0) ?_
  obtain ⟨x5, k6, ex5, lx5, ok6, hx5, hk6⟩ := addc_ex (lb a 0) (lb b 0) 0 (lb_lt a 0) (lb_lt b 0) (by decide)
  refine D_val (.tuple #[wd x5, wd k6]) (by kernel_rfl) (fun w => fv (v := .tuple #[wd (((lb a 0) + (lb b 0) + 0) % 18446744073709551616), wd (((lb a 0) + (lb b 0) + 0) / 18446744073709551616)]) (by rw [hx5, hk6]) ((clv (x := .func 52) rfl (by kernel_rfl) (by kernel_rfl) (by kernel_rfl) (x_add (lb a 0) (lb b 0) 0 (by decide))) w)) ?_
  refine D_v (.tuple #[wd x5, wd k6]) ?_
  refine D_v (wd x5) ?_
  refine D_v (wd k6) ?_
  refine D_v (pt b4 0) ?_
  refine D_do (by kernel_rfl) (st1 (v := wd x5) (L' := [⟨b4, [wd x5, .int .u64 0, .int .u64 0, .int .u64 0], 34⟩, ⟨b3, [.int .u64 0, .int .u64 0, .int .u64 0, .int .u64 0], 34⟩, ⟨b2, [wd (lb b 0), wd (lb b 1), wd (lb b 2), wd (lb b 3)], 34⟩, ⟨b1, [wd (lb a 0), wd (lb a 1), wd (lb a 2), wd (lb a 3)], 34⟩]) 0 b4 0 [.int .u64 0, .int .u64 0, .int .u64 0, .int .u64 0] 34 rfl (by kernel_rfl) (by kernel_rfl) Tryd.sizeOf29 (by rfl) (by kernel_rfl) (by simp) (by kernel_rfl)) ?_
  refine D_v (wd k6) ?_
  refine D_nil ?_
  refine E_inblock ?_
  refine E_then ?_
  refine C_region ?_
  refine S_v (.int .i64 1) ?_
  refine S_v (.int .i64 1) ?_
  refine S_nil ?_
  refine E_rounds ?_
  refine R_succ ?_
  refine C_forget (fun g => ⟨#[g 0, g 1, pt b1 0, pt b2 0, pt b3 0, g 5, pt b4 0, wd k6, g 8, .int .i64 1, g 10, g 11, g 12, g 13, g 14, g 15, g 16, g 17, g 18, g 19, g 20, g 21, g 22, g 23, g 24, g 25, g 26, g 27], []⟩) (by kernel_rfl) ?_
  intro g
  refine C_seq ?_
  refine C_region ?_
  refine S_v (.bool true) ?_
  refine S_nil ?_
  refine E_then ?_
  refine C_seq ?_
  refine C_true (by kernel_rfl) ?_
  refine C_skip ?_
  refine E_then ?_
  refine C_seq ?_
  refine C_block ?_
  refine C_seq ?_
  refine C_region ?_
  refine S_v (.int .i64 1) ?_
  refine S_v (.int .i64 1) ?_
  refine S_nil ?_
  refine E_then ?_
  refine C_drawn [.pure, .pure, .pure, .held, .pure, .pure, .held, .pure, .pure, .pure, .pure, .pure, .pure, .eff, .pure] (by kernel_rfl) (by kernel_rfl) ?_
  refine D_v (.int .i64 1) ?_
  refine D_v (.int .i64 1) ?_
  refine D_v (pt b1 1) ?_
  refine D_held (wd (lb a 1)) (by kernel_rfl) (ld1 3 b1 1 [wd (lb a 0), wd (lb a 1), wd (lb a 2), wd (lb a 3)] 34 rfl (by kernel_rfl) Tryd.isAgg29 (by kernel_rfl) (by kernel_rfl)) ?_
  refine D_v (.int .i64 1) ?_
  refine D_v (pt b2 1) ?_
  refine D_held (wd (lb b 1)) (by kernel_rfl) (ld1 2 b2 1 [wd (lb b 0), wd (lb b 1), wd (lb b 2), wd (lb b 3)] 34 rfl (by kernel_rfl) Tryd.isAgg29 (by kernel_rfl) (by kernel_rfl)) ?_
  refine D_v (wd k6) ?_
  obtain ⟨x7, k8, ex7, lx7, ok8, hx7, hk8⟩ := addc_ex (lb a 1) (lb b 1) k6 (lb_lt a 1) (lb_lt b 1) ok6
  refine D_val (.tuple #[wd x7, wd k8]) (by kernel_rfl) (fun w => fv (v := .tuple #[wd (((lb a 1) + (lb b 1) + k6) % 18446744073709551616), wd (((lb a 1) + (lb b 1) + k6) / 18446744073709551616)]) (by rw [hx7, hk8]) ((clv (x := .func 52) rfl (by kernel_rfl) (by kernel_rfl) (by kernel_rfl) (x_add (lb a 1) (lb b 1) k6 ok6)) w)) ?_
  refine D_v (.tuple #[wd x7, wd k8]) ?_
  refine D_v (wd x7) ?_
  refine D_v (wd k8) ?_
  refine D_v (pt b4 1) ?_
  refine D_do (by kernel_rfl) (st1 (v := wd x7) (L' := [⟨b4, [wd x5, wd x7, .int .u64 0, .int .u64 0], 34⟩, ⟨b3, [.int .u64 0, .int .u64 0, .int .u64 0, .int .u64 0], 34⟩, ⟨b2, [wd (lb b 0), wd (lb b 1), wd (lb b 2), wd (lb b 3)], 34⟩, ⟨b1, [wd (lb a 0), wd (lb a 1), wd (lb a 2), wd (lb a 3)], 34⟩]) 0 b4 1 [wd x5, .int .u64 0, .int .u64 0, .int .u64 0] 34 rfl (by kernel_rfl) (by kernel_rfl) Tryd.sizeOf29 (by rfl) (by kernel_rfl) (by simp) (by kernel_rfl)) ?_
  refine D_v (wd k8) ?_
  refine D_nil ?_
  refine E_inblock ?_
  refine E_then ?_
  refine C_region ?_
  refine S_v (.int .i64 2) ?_
  refine S_v (.int .i64 2) ?_
  refine S_nil ?_
  refine E_rounds ?_
  refine R_succ ?_
  refine C_forget (fun g => ⟨#[g 0, g 1, pt b1 0, pt b2 0, pt b3 0, g 5, pt b4 0, wd k8, g 8, .int .i64 2, g 10, g 11, g 12, g 13, g 14, g 15, g 16, g 17, g 18, g 19, g 20, g 21, g 22, g 23, g 24, g 25, g 26, g 27], []⟩) (by kernel_rfl) ?_
  intro g
  refine C_seq ?_
  refine C_region ?_
  refine S_v (.bool true) ?_
  refine S_nil ?_
  refine E_then ?_
  refine C_seq ?_
  refine C_true (by kernel_rfl) ?_
  refine C_skip ?_
  refine E_then ?_
  refine C_seq ?_
  refine C_block ?_
  refine C_seq ?_
  refine C_region ?_
  refine S_v (.int .i64 2) ?_
  refine S_v (.int .i64 2) ?_
  refine S_nil ?_
  refine E_then ?_
  refine C_drawn [.pure, .pure, .pure, .held, .pure, .pure, .held, .pure, .pure, .pure, .pure, .pure, .pure, .eff, .pure] (by kernel_rfl) (by kernel_rfl) ?_
  refine D_v (.int .i64 2) ?_
  refine D_v (.int .i64 2) ?_
  refine D_v (pt b1 2) ?_
  refine D_held (wd (lb a 2)) (by kernel_rfl) (ld1 3 b1 2 [wd (lb a 0), wd (lb a 1), wd (lb a 2), wd (lb a 3)] 34 rfl (by kernel_rfl) Tryd.isAgg29 (by kernel_rfl) (by kernel_rfl)) ?_
  refine D_v (.int .i64 2) ?_
  refine D_v (pt b2 2) ?_
  refine D_held (wd (lb b 2)) (by kernel_rfl) (ld1 2 b2 2 [wd (lb b 0), wd (lb b 1), wd (lb b 2), wd (lb b 3)] 34 rfl (by kernel_rfl) Tryd.isAgg29 (by kernel_rfl) (by kernel_rfl)) ?_
  refine D_v (wd k8) ?_
  obtain ⟨x9, k10, ex9, lx9, ok10, hx9, hk10⟩ := addc_ex (lb a 2) (lb b 2) k8 (lb_lt a 2) (lb_lt b 2) ok8
  refine D_val (.tuple #[wd x9, wd k10]) (by kernel_rfl) (fun w => fv (v := .tuple #[wd (((lb a 2) + (lb b 2) + k8) % 18446744073709551616), wd (((lb a 2) + (lb b 2) + k8) / 18446744073709551616)]) (by rw [hx9, hk10]) ((clv (x := .func 52) rfl (by kernel_rfl) (by kernel_rfl) (by kernel_rfl) (x_add (lb a 2) (lb b 2) k8 ok8)) w)) ?_
  refine D_v (.tuple #[wd x9, wd k10]) ?_
  refine D_v (wd x9) ?_
  refine D_v (wd k10) ?_
  refine D_v (pt b4 2) ?_
  refine D_do (by kernel_rfl) (st1 (v := wd x9) (L' := [⟨b4, [wd x5, wd x7, wd x9, .int .u64 0], 34⟩, ⟨b3, [.int .u64 0, .int .u64 0, .int .u64 0, .int .u64 0], 34⟩, ⟨b2, [wd (lb b 0), wd (lb b 1), wd (lb b 2), wd (lb b 3)], 34⟩, ⟨b1, [wd (lb a 0), wd (lb a 1), wd (lb a 2), wd (lb a 3)], 34⟩]) 0 b4 2 [wd x5, wd x7, .int .u64 0, .int .u64 0] 34 rfl (by kernel_rfl) (by kernel_rfl) Tryd.sizeOf29 (by rfl) (by kernel_rfl) (by simp) (by kernel_rfl)) ?_
  refine D_v (wd k10) ?_
  refine D_nil ?_
  refine E_inblock ?_
  refine E_then ?_
  refine C_region ?_
  refine S_v (.int .i64 3) ?_
  refine S_v (.int .i64 3) ?_
  refine S_nil ?_
  refine E_rounds ?_
  refine R_succ ?_
  refine C_forget (fun g => ⟨#[g 0, g 1, pt b1 0, pt b2 0, pt b3 0, g 5, pt b4 0, wd k10, g 8, .int .i64 3, g 10, g 11, g 12, g 13, g 14, g 15, g 16, g 17, g 18, g 19, g 20, g 21, g 22, g 23, g 24, g 25, g 26, g 27], []⟩) (by kernel_rfl) ?_
  intro g
  refine C_seq ?_
  refine C_region ?_
  refine S_v (.bool true) ?_
  refine S_nil ?_
  refine E_then ?_
  refine C_seq ?_
  refine C_true (by kernel_rfl) ?_
  refine C_skip ?_
  refine E_then ?_
  refine C_seq ?_
  refine C_block ?_
  refine C_seq ?_
  refine C_region ?_
  refine S_v (.int .i64 3) ?_
  refine S_v (.int .i64 3) ?_
  refine S_nil ?_
  refine E_then ?_
  refine C_drawn [.pure, .pure, .pure, .held, .pure, .pure, .held, .pure, .pure, .pure, .pure, .pure, .pure, .eff, .pure] (by kernel_rfl) (by kernel_rfl) ?_
  refine D_v (.int .i64 3) ?_
  refine D_v (.int .i64 3) ?_
  refine D_v (pt b1 3) ?_
  refine D_held (wd (lb a 3)) (by kernel_rfl) (ld1 3 b1 3 [wd (lb a 0), wd (lb a 1), wd (lb a 2), wd (lb a 3)] 34 rfl (by kernel_rfl) Tryd.isAgg29 (by kernel_rfl) (by kernel_rfl)) ?_
  refine D_v (.int .i64 3) ?_
  refine D_v (pt b2 3) ?_
  refine D_held (wd (lb b 3)) (by kernel_rfl) (ld1 2 b2 3 [wd (lb b 0), wd (lb b 1), wd (lb b 2), wd (lb b 3)] 34 rfl (by kernel_rfl) Tryd.isAgg29 (by kernel_rfl) (by kernel_rfl)) ?_
  refine D_v (wd k10) ?_
  obtain ⟨x11, k12, ex11, lx11, ok12, hx11, hk12⟩ := addc_ex (lb a 3) (lb b 3) k10 (lb_lt a 3) (lb_lt b 3) ok10
  refine D_val (.tuple #[wd x11, wd k12]) (by kernel_rfl) (fun w => fv (v := .tuple #[wd (((lb a 3) + (lb b 3) + k10) % 18446744073709551616), wd (((lb a 3) + (lb b 3) + k10) / 18446744073709551616)]) (by rw [hx11, hk12]) ((clv (x := .func 52) rfl (by kernel_rfl) (by kernel_rfl) (by kernel_rfl) (x_add (lb a 3) (lb b 3) k10 ok10)) w)) ?_
  refine D_v (.tuple #[wd x11, wd k12]) ?_
  refine D_v (wd x11) ?_
  refine D_v (wd k12) ?_
  refine D_v (pt b4 3) ?_
  refine D_do (by kernel_rfl) (st1 (v := wd x11) (L' := [⟨b4, [wd x5, wd x7, wd x9, wd x11], 34⟩, ⟨b3, [.int .u64 0, .int .u64 0, .int .u64 0, .int .u64 0], 34⟩, ⟨b2, [wd (lb b 0), wd (lb b 1), wd (lb b 2), wd (lb b 3)], 34⟩, ⟨b1, [wd (lb a 0), wd (lb a 1), wd (lb a 2), wd (lb a 3)], 34⟩]) 0 b4 3 [wd x5, wd x7, wd x9, .int .u64 0] 34 rfl (by kernel_rfl) (by kernel_rfl) Tryd.sizeOf29 (by rfl) (by kernel_rfl) (by simp) (by kernel_rfl)) ?_
  refine D_v (wd k12) ?_
  refine D_nil ?_
  refine E_inblock ?_
  refine E_then ?_
  refine C_region ?_
  refine S_v (.int .i64 4) ?_
  refine S_v (.int .i64 4) ?_
  refine S_nil ?_
  refine E_rounds ?_
  refine R_succ ?_
  refine C_forget (fun g => ⟨#[g 0, g 1, pt b1 0, pt b2 0, pt b3 0, g 5, pt b4 0, wd k12, g 8, .int .i64 4, g 10, g 11, g 12, g 13, g 14, g 15, g 16, g 17, g 18, g 19, g 20, g 21, g 22, g 23, g 24, g 25, g 26, g 27], []⟩) (by kernel_rfl) ?_
  intro g
  refine C_seq ?_
  refine C_region ?_
  refine S_v (.bool false) ?_
  refine S_nil ?_
  refine E_then ?_
  refine C_seq ?_
  refine C_false (by kernel_rfl) ?_
  refine C_exit ?_
  refine E_pass_exit ?_
  refine E_pass_exit ?_
  refine E_outblock ?_
  refine E_then ?_
  refine C_seq ?_
  refine C_region ?_
  refine S_val (.agg #[wd x5, wd x7, wd x9, wd x11]) (by kernel_rfl) (ldN [wd x5, wd x7, wd x9, wd x11] 0 b4 0 [wd x5, wd x7, wd x9, wd x11] 34 rfl (by kernel_rfl) Tryd.isAgg34 Tryd.sizeOf34 (by kernel_rfl) (by kernel_rfl)) ?_
  refine S_v (wd k12) ?_
  refine S_do (by kernel_rfl) (stN (L' := [⟨b4, [wd x5, wd x7, wd x9, wd x11], 34⟩, ⟨b3, [wd x5, wd x7, wd x9, wd x11], 34⟩, ⟨b2, [wd (lb b 0), wd (lb b 1), wd (lb b 2), wd (lb b 3)], 34⟩, ⟨b1, [wd (lb a 0), wd (lb a 1), wd (lb a 2), wd (lb a 3)], 34⟩]) [wd x5, wd x7, wd x9, wd x11] 1 b3 0 [.int .u64 0, .int .u64 0, .int .u64 0, .int .u64 0] 34 rfl (by kernel_rfl) (by kernel_rfl) Tryd.sizeOf34 (by simp [Value.oneCell']) (by kernel_rfl) (by simp) (by kernel_rfl)) ?_
  refine S_v (wd k12) ?_
  refine S_nil ?_
  refine E_then ?_
  refine C_ret ?_
  have E : x5 + 18446744073709551616 * x7 + 340282366920938463463374607431768211456 * x9 + 6277101735386680763835789423207666416102355444464034512896 * x11 + W256 * k12 = a + b := by have A := lb_sum a ha; have B := lb_sum b hb; unfold W256 at *; omega
  have HX : x5 + 18446744073709551616 * x7 + 340282366920938463463374607431768211456 * x9 + 6277101735386680763835789423207666416102355444464034512896 * x11 < W256 := by unfold W256; omega
  obtain ⟨q1, q2⟩ := plus_law ha hb HX E
  rw [← q2, sc_join lx5 lx7 lx9 lx11 q1]
  exact pure_ret rfl (resM (rs := [.cell 4 34, .tmp 5]) Tryd.results54 [.agg #[wd x5, wd x7, wd x9, wd x11], wd k12] (by simp) (fun w hO => (.cell (by kernel_rfl) (resCell hO [wd x5, wd x7, wd x9, wd x11] 1 b3 34 Tryd.isAgg34 Tryd.sizeOf34 (by kernel_rfl)) (.tmp (by kernel_rfl) .nil))))
theorem ite256 (c : Prop) [Decidable c] {x y : Nat} (hx : x < W256) (hy : y < W256) : (if c then x else y) < W256 := by split <;> assumption
theorem lb3_div (n : Nat) (hn : n < W256) : lb n 3 / 2 ^ 60 = n / 7237005577332262213973186563042994240829374041602535252466099000494570602496 := by
  unfold lb
  rw [Nat.mod_eq_of_lt (by unfold W256 at hn; omega), Nat.div_div_eq_div_mul]
theorem c_choose0 (a b : Nat) : Pure Tryd.prog 56 #[.int .u64 0, sc4 a, sc4 b] (sc4 b) := by
  refine pure_of Tryd.func56 rfl (fun w0 => ?_)
  refine C_seq ?_
  refine C_region ?_
  refine S_newv (fun nb0 => pt nb0 0) [wd (lb a 0), wd (lb a 1), wd (lb a 2), wd (lb a 3)] 34 (by kernel_rfl) (fun w _ => by kernel_rfl) ?_
  intro b1 hb1 Hb1
  refine S_newv (fun nb0 => pt nb0 0) [wd (lb b 0), wd (lb b 1), wd (lb b 2), wd (lb b 3)] 34 (by kernel_rfl) (fun w _ => by kernel_rfl) ?_
  intro b2 hb2 Hb2
  refine S_newv (fun nb0 => pt nb0 0) [.int .u64 0, .int .u64 0, .int .u64 0, .int .u64 0] 34 (by kernel_rfl) (fun w _ => by kernel_rfl) ?_
  intro b3 hb3 Hb3
  refine S_nil ?_
  refine E_then ?_
  refine C_seq ?_
  refine C_seq ?_
  refine C_region ?_
  refine S_v (.int .i64 0) ?_
  refine S_nil ?_
  refine E_then ?_
  refine C_block ?_
  refine C_unroll 5 ?_
  refine R_succ ?_
  refine C_forget (fun g => ⟨#[.int .u64 0, g 1, g 2, g 3, pt b1 0, pt b2 0, pt b3 0, g 7, .int .i64 0, g 9, g 10, g 11, g 12, g 13, g 14, g 15, g 16, g 17, g 18, g 19, g 20, g 21, g 22, g 23, g 24, g 25], []⟩) (by kernel_rfl) ?_
  intro g
  refine C_seq ?_
  refine C_region ?_
  refine S_v (.bool true) ?_
  refine S_nil ?_
  refine E_then ?_
  refine C_seq ?_
  refine C_true (by kernel_rfl) ?_
  refine C_skip ?_
  refine E_then ?_
  refine C_seq ?_
  refine C_block ?_
  refine C_seq ?_
  refine C_region ?_
  refine S_v (.int .i64 0) ?_
  refine S_v (.int .i64 0) ?_
  refine S_nil ?_
  refine E_then ?_
  refine C_drawn [.pure, .pure, .pure, .held, .pure, .pure, .pure, .pure, .held, .pure, .pure, .pure, .pure, .eff] (by kernel_rfl) (by kernel_rfl) ?_
  refine D_v (.int .i64 0) ?_
  refine D_v (.int .i64 0) ?_
  refine D_v (pt b1 0) ?_
  refine D_held (wd (lb a 0)) (by kernel_rfl) (ld1 2 b1 0 [wd (lb a 0), wd (lb a 1), wd (lb a 2), wd (lb a 3)] 34 rfl (by kernel_rfl) Tryd.isAgg29 (by kernel_rfl) (by kernel_rfl)) ?_
  refine D_v (.int .u64 0) ?_
  refine D_val (.int .u64 0) (by kernel_rfl) (fun _ => fv (v := .int .u64 (IntKind.u64.wrap (((BitVec.ofInt IntKind.u64.bits ((lb a 0 : Nat) : Int)) &&& (BitVec.ofInt IntKind.u64.bits 0)).toNat : Int))) ((vint (u_and_zero (lb a 0)))) (by kernel_rfl)) ?_
  refine D_v (.int .i64 0) ?_
  refine D_v (pt b2 0) ?_
  refine D_held (wd (lb b 0)) (by kernel_rfl) (ld1 1 b2 0 [wd (lb b 0), wd (lb b 1), wd (lb b 2), wd (lb b 3)] 34 rfl (by kernel_rfl) Tryd.isAgg29 (by kernel_rfl) (by kernel_rfl)) ?_
  refine D_v (.int .u64 0) ?_
  refine D_val (wd (lb b 0)) (by kernel_rfl) (fun _ => fv (v := .int .u64 (IntKind.u64.wrap (((BitVec.ofInt IntKind.u64.bits ((lb b 0 : Nat) : Int)) &&& ~~~(BitVec.ofInt IntKind.u64.bits 0)).toNat : Int))) ((vint (u_andNot_zero (lb b 0) (lb_lt b 0)))) (by kernel_rfl)) ?_
  refine D_val (wd (lb b 0)) (by kernel_rfl) (fun _ => fv (v := .int .u64 (IntKind.u64.wrap (((BitVec.ofInt IntKind.u64.bits 0) ||| (BitVec.ofInt IntKind.u64.bits ((lb b 0 : Nat) : Int))).toNat : Int))) ((vint (u_zero_or (lb b 0) (lb_lt b 0)))) (by kernel_rfl)) ?_
  refine D_v (pt b1 0) ?_
  refine D_do (by kernel_rfl) (st1 (v := wd (lb b 0)) (L' := [⟨b3, [.int .u64 0, .int .u64 0, .int .u64 0, .int .u64 0], 34⟩, ⟨b2, [wd (lb b 0), wd (lb b 1), wd (lb b 2), wd (lb b 3)], 34⟩, ⟨b1, [wd (lb b 0), wd (lb a 1), wd (lb a 2), wd (lb a 3)], 34⟩]) 2 b1 0 [wd (lb a 0), wd (lb a 1), wd (lb a 2), wd (lb a 3)] 34 rfl (by kernel_rfl) (by kernel_rfl) Tryd.sizeOf29 (by rfl) (by kernel_rfl) (by simp) (by kernel_rfl)) ?_
  refine D_nil ?_
  refine E_inblock ?_
  refine E_then ?_
  refine C_region ?_
  refine S_v (.int .i64 1) ?_
  refine S_v (.int .i64 1) ?_
  refine S_nil ?_
  refine E_rounds ?_
  refine R_succ ?_
  refine C_forget (fun g => ⟨#[.int .u64 0, g 1, g 2, g 3, pt b1 0, pt b2 0, pt b3 0, g 7, .int .i64 1, g 9, g 10, g 11, g 12, g 13, g 14, g 15, g 16, g 17, g 18, g 19, g 20, g 21, g 22, g 23, g 24, g 25], []⟩) (by kernel_rfl) ?_
  intro g
  refine C_seq ?_
  refine C_region ?_
  refine S_v (.bool true) ?_
  refine S_nil ?_
  refine E_then ?_
  refine C_seq ?_
  refine C_true (by kernel_rfl) ?_
  refine C_skip ?_
  refine E_then ?_
  refine C_seq ?_
  refine C_block ?_
  refine C_seq ?_
  refine C_region ?_
  refine S_v (.int .i64 1) ?_
  refine S_v (.int .i64 1) ?_
  refine S_nil ?_
  refine E_then ?_
  refine C_drawn [.pure, .pure, .pure, .held, .pure, .pure, .pure, .pure, .held, .pure, .pure, .pure, .pure, .eff] (by kernel_rfl) (by kernel_rfl) ?_
  refine D_v (.int .i64 1) ?_
  refine D_v (.int .i64 1) ?_
  refine D_v (pt b1 1) ?_
  refine D_held (wd (lb a 1)) (by kernel_rfl) (ld1 2 b1 1 [wd (lb b 0), wd (lb a 1), wd (lb a 2), wd (lb a 3)] 34 rfl (by kernel_rfl) Tryd.isAgg29 (by kernel_rfl) (by kernel_rfl)) ?_
  refine D_v (.int .u64 0) ?_
  refine D_val (.int .u64 0) (by kernel_rfl) (fun _ => fv (v := .int .u64 (IntKind.u64.wrap (((BitVec.ofInt IntKind.u64.bits ((lb a 1 : Nat) : Int)) &&& (BitVec.ofInt IntKind.u64.bits 0)).toNat : Int))) ((vint (u_and_zero (lb a 1)))) (by kernel_rfl)) ?_
  refine D_v (.int .i64 1) ?_
  refine D_v (pt b2 1) ?_
  refine D_held (wd (lb b 1)) (by kernel_rfl) (ld1 1 b2 1 [wd (lb b 0), wd (lb b 1), wd (lb b 2), wd (lb b 3)] 34 rfl (by kernel_rfl) Tryd.isAgg29 (by kernel_rfl) (by kernel_rfl)) ?_
  refine D_v (.int .u64 0) ?_
  refine D_val (wd (lb b 1)) (by kernel_rfl) (fun _ => fv (v := .int .u64 (IntKind.u64.wrap (((BitVec.ofInt IntKind.u64.bits ((lb b 1 : Nat) : Int)) &&& ~~~(BitVec.ofInt IntKind.u64.bits 0)).toNat : Int))) ((vint (u_andNot_zero (lb b 1) (lb_lt b 1)))) (by kernel_rfl)) ?_
  refine D_val (wd (lb b 1)) (by kernel_rfl) (fun _ => fv (v := .int .u64 (IntKind.u64.wrap (((BitVec.ofInt IntKind.u64.bits 0) ||| (BitVec.ofInt IntKind.u64.bits ((lb b 1 : Nat) : Int))).toNat : Int))) ((vint (u_zero_or (lb b 1) (lb_lt b 1)))) (by kernel_rfl)) ?_
  refine D_v (pt b1 1) ?_
  refine D_do (by kernel_rfl) (st1 (v := wd (lb b 1)) (L' := [⟨b3, [.int .u64 0, .int .u64 0, .int .u64 0, .int .u64 0], 34⟩, ⟨b2, [wd (lb b 0), wd (lb b 1), wd (lb b 2), wd (lb b 3)], 34⟩, ⟨b1, [wd (lb b 0), wd (lb b 1), wd (lb a 2), wd (lb a 3)], 34⟩]) 2 b1 1 [wd (lb b 0), wd (lb a 1), wd (lb a 2), wd (lb a 3)] 34 rfl (by kernel_rfl) (by kernel_rfl) Tryd.sizeOf29 (by rfl) (by kernel_rfl) (by simp) (by kernel_rfl)) ?_
  refine D_nil ?_
  refine E_inblock ?_
  refine E_then ?_
  refine C_region ?_
  refine S_v (.int .i64 2) ?_
  refine S_v (.int .i64 2) ?_
  refine S_nil ?_
  refine E_rounds ?_
  refine R_succ ?_
  refine C_forget (fun g => ⟨#[.int .u64 0, g 1, g 2, g 3, pt b1 0, pt b2 0, pt b3 0, g 7, .int .i64 2, g 9, g 10, g 11, g 12, g 13, g 14, g 15, g 16, g 17, g 18, g 19, g 20, g 21, g 22, g 23, g 24, g 25], []⟩) (by kernel_rfl) ?_
  intro g
  refine C_seq ?_
  refine C_region ?_
  refine S_v (.bool true) ?_
  refine S_nil ?_
  refine E_then ?_
  refine C_seq ?_
  refine C_true (by kernel_rfl) ?_
  refine C_skip ?_
  refine E_then ?_
  refine C_seq ?_
  refine C_block ?_
  refine C_seq ?_
  refine C_region ?_
  refine S_v (.int .i64 2) ?_
  refine S_v (.int .i64 2) ?_
  refine S_nil ?_
  refine E_then ?_
  refine C_drawn [.pure, .pure, .pure, .held, .pure, .pure, .pure, .pure, .held, .pure, .pure, .pure, .pure, .eff] (by kernel_rfl) (by kernel_rfl) ?_
  refine D_v (.int .i64 2) ?_
  refine D_v (.int .i64 2) ?_
  refine D_v (pt b1 2) ?_
  refine D_held (wd (lb a 2)) (by kernel_rfl) (ld1 2 b1 2 [wd (lb b 0), wd (lb b 1), wd (lb a 2), wd (lb a 3)] 34 rfl (by kernel_rfl) Tryd.isAgg29 (by kernel_rfl) (by kernel_rfl)) ?_
  refine D_v (.int .u64 0) ?_
  refine D_val (.int .u64 0) (by kernel_rfl) (fun _ => fv (v := .int .u64 (IntKind.u64.wrap (((BitVec.ofInt IntKind.u64.bits ((lb a 2 : Nat) : Int)) &&& (BitVec.ofInt IntKind.u64.bits 0)).toNat : Int))) ((vint (u_and_zero (lb a 2)))) (by kernel_rfl)) ?_
  refine D_v (.int .i64 2) ?_
  refine D_v (pt b2 2) ?_
  refine D_held (wd (lb b 2)) (by kernel_rfl) (ld1 1 b2 2 [wd (lb b 0), wd (lb b 1), wd (lb b 2), wd (lb b 3)] 34 rfl (by kernel_rfl) Tryd.isAgg29 (by kernel_rfl) (by kernel_rfl)) ?_
  refine D_v (.int .u64 0) ?_
  refine D_val (wd (lb b 2)) (by kernel_rfl) (fun _ => fv (v := .int .u64 (IntKind.u64.wrap (((BitVec.ofInt IntKind.u64.bits ((lb b 2 : Nat) : Int)) &&& ~~~(BitVec.ofInt IntKind.u64.bits 0)).toNat : Int))) ((vint (u_andNot_zero (lb b 2) (lb_lt b 2)))) (by kernel_rfl)) ?_
  refine D_val (wd (lb b 2)) (by kernel_rfl) (fun _ => fv (v := .int .u64 (IntKind.u64.wrap (((BitVec.ofInt IntKind.u64.bits 0) ||| (BitVec.ofInt IntKind.u64.bits ((lb b 2 : Nat) : Int))).toNat : Int))) ((vint (u_zero_or (lb b 2) (lb_lt b 2)))) (by kernel_rfl)) ?_
  refine D_v (pt b1 2) ?_
  refine D_do (by kernel_rfl) (st1 (v := wd (lb b 2)) (L' := [⟨b3, [.int .u64 0, .int .u64 0, .int .u64 0, .int .u64 0], 34⟩, ⟨b2, [wd (lb b 0), wd (lb b 1), wd (lb b 2), wd (lb b 3)], 34⟩, ⟨b1, [wd (lb b 0), wd (lb b 1), wd (lb b 2), wd (lb a 3)], 34⟩]) 2 b1 2 [wd (lb b 0), wd (lb b 1), wd (lb a 2), wd (lb a 3)] 34 rfl (by kernel_rfl) (by kernel_rfl) Tryd.sizeOf29 (by rfl) (by kernel_rfl) (by simp) (by kernel_rfl)) ?_
  refine D_nil ?_
  refine E_inblock ?_
  refine E_then ?_
  refine C_region ?_
  refine S_v (.int .i64 3) ?_
  refine S_v (.int .i64 3) ?_
  refine S_nil ?_
  refine E_rounds ?_
  refine R_succ ?_
  refine C_forget (fun g => ⟨#[.int .u64 0, g 1, g 2, g 3, pt b1 0, pt b2 0, pt b3 0, g 7, .int .i64 3, g 9, g 10, g 11, g 12, g 13, g 14, g 15, g 16, g 17, g 18, g 19, g 20, g 21, g 22, g 23, g 24, g 25], []⟩) (by kernel_rfl) ?_
  intro g
  refine C_seq ?_
  refine C_region ?_
  refine S_v (.bool true) ?_
  refine S_nil ?_
  refine E_then ?_
  refine C_seq ?_
  refine C_true (by kernel_rfl) ?_
  refine C_skip ?_
  refine E_then ?_
  refine C_seq ?_
  refine C_block ?_
  refine C_seq ?_
  refine C_region ?_
  refine S_v (.int .i64 3) ?_
  refine S_v (.int .i64 3) ?_
  refine S_nil ?_
  refine E_then ?_
  refine C_drawn [.pure, .pure, .pure, .held, .pure, .pure, .pure, .pure, .held, .pure, .pure, .pure, .pure, .eff] (by kernel_rfl) (by kernel_rfl) ?_
  refine D_v (.int .i64 3) ?_
  refine D_v (.int .i64 3) ?_
  refine D_v (pt b1 3) ?_
  refine D_held (wd (lb a 3)) (by kernel_rfl) (ld1 2 b1 3 [wd (lb b 0), wd (lb b 1), wd (lb b 2), wd (lb a 3)] 34 rfl (by kernel_rfl) Tryd.isAgg29 (by kernel_rfl) (by kernel_rfl)) ?_
  refine D_v (.int .u64 0) ?_
  refine D_val (.int .u64 0) (by kernel_rfl) (fun _ => fv (v := .int .u64 (IntKind.u64.wrap (((BitVec.ofInt IntKind.u64.bits ((lb a 3 : Nat) : Int)) &&& (BitVec.ofInt IntKind.u64.bits 0)).toNat : Int))) ((vint (u_and_zero (lb a 3)))) (by kernel_rfl)) ?_
  refine D_v (.int .i64 3) ?_
  refine D_v (pt b2 3) ?_
  refine D_held (wd (lb b 3)) (by kernel_rfl) (ld1 1 b2 3 [wd (lb b 0), wd (lb b 1), wd (lb b 2), wd (lb b 3)] 34 rfl (by kernel_rfl) Tryd.isAgg29 (by kernel_rfl) (by kernel_rfl)) ?_
  refine D_v (.int .u64 0) ?_
  refine D_val (wd (lb b 3)) (by kernel_rfl) (fun _ => fv (v := .int .u64 (IntKind.u64.wrap (((BitVec.ofInt IntKind.u64.bits ((lb b 3 : Nat) : Int)) &&& ~~~(BitVec.ofInt IntKind.u64.bits 0)).toNat : Int))) ((vint (u_andNot_zero (lb b 3) (lb_lt b 3)))) (by kernel_rfl)) ?_
  refine D_val (wd (lb b 3)) (by kernel_rfl) (fun _ => fv (v := .int .u64 (IntKind.u64.wrap (((BitVec.ofInt IntKind.u64.bits 0) ||| (BitVec.ofInt IntKind.u64.bits ((lb b 3 : Nat) : Int))).toNat : Int))) ((vint (u_zero_or (lb b 3) (lb_lt b 3)))) (by kernel_rfl)) ?_
  refine D_v (pt b1 3) ?_
  refine D_do (by kernel_rfl) (st1 (v := wd (lb b 3)) (L' := [⟨b3, [.int .u64 0, .int .u64 0, .int .u64 0, .int .u64 0], 34⟩, ⟨b2, [wd (lb b 0), wd (lb b 1), wd (lb b 2), wd (lb b 3)], 34⟩, ⟨b1, [wd (lb b 0), wd (lb b 1), wd (lb b 2), wd (lb b 3)], 34⟩]) 2 b1 3 [wd (lb b 0), wd (lb b 1), wd (lb b 2), wd (lb a 3)] 34 rfl (by kernel_rfl) (by kernel_rfl) Tryd.sizeOf29 (by rfl) (by kernel_rfl) (by simp) (by kernel_rfl)) ?_
  refine D_nil ?_
  refine E_inblock ?_
  refine E_then ?_
  refine C_region ?_
  refine S_v (.int .i64 4) ?_
  refine S_v (.int .i64 4) ?_
  refine S_nil ?_
  refine E_rounds ?_
  refine R_succ ?_
  refine C_forget (fun g => ⟨#[.int .u64 0, g 1, g 2, g 3, pt b1 0, pt b2 0, pt b3 0, g 7, .int .i64 4, g 9, g 10, g 11, g 12, g 13, g 14, g 15, g 16, g 17, g 18, g 19, g 20, g 21, g 22, g 23, g 24, g 25], []⟩) (by kernel_rfl) ?_
  intro g
  refine C_seq ?_
  refine C_region ?_
  refine S_v (.bool false) ?_
  refine S_nil ?_
  refine E_then ?_
  refine C_seq ?_
  refine C_false (by kernel_rfl) ?_
  refine C_exit ?_
  refine E_pass_exit ?_
  refine E_pass_exit ?_
  refine E_outblock ?_
  refine E_then ?_
  refine C_seq ?_
  refine C_region ?_
  refine S_val (sc4 b) (by kernel_rfl) (ldN [wd (lb b 0), wd (lb b 1), wd (lb b 2), wd (lb b 3)] 2 b1 0 [wd (lb b 0), wd (lb b 1), wd (lb b 2), wd (lb b 3)] 34 rfl (by kernel_rfl) Tryd.isAgg34 Tryd.sizeOf34 (by kernel_rfl) (by kernel_rfl)) ?_
  refine S_do (by kernel_rfl) (stN (L' := [⟨b3, [wd (lb b 0), wd (lb b 1), wd (lb b 2), wd (lb b 3)], 34⟩, ⟨b2, [wd (lb b 0), wd (lb b 1), wd (lb b 2), wd (lb b 3)], 34⟩, ⟨b1, [wd (lb b 0), wd (lb b 1), wd (lb b 2), wd (lb b 3)], 34⟩]) [wd (lb b 0), wd (lb b 1), wd (lb b 2), wd (lb b 3)] 0 b3 0 [.int .u64 0, .int .u64 0, .int .u64 0, .int .u64 0] 34 rfl (by kernel_rfl) (by kernel_rfl) Tryd.sizeOf34 (by simp [Value.oneCell']) (by kernel_rfl) (by simp) (by kernel_rfl)) ?_
  refine S_nil ?_
  refine E_then ?_
  refine C_ret ?_
  exact pure_ret rfl (resC Tryd.results56 [wd (lb b 0), wd (lb b 1), wd (lb b 2), wd (lb b 3)] 0 b3 34 (by kernel_rfl) Tryd.isAgg34 Tryd.sizeOf34 (by kernel_rfl))
theorem c_choose1 (a b : Nat) : Pure Tryd.prog 56 #[.int .u64 18446744073709551615, sc4 a, sc4 b] (sc4 a) := by
  refine pure_of Tryd.func56 rfl (fun w0 => ?_)
  refine C_seq ?_
  refine C_region ?_
  refine S_newv (fun nb0 => pt nb0 0) [wd (lb a 0), wd (lb a 1), wd (lb a 2), wd (lb a 3)] 34 (by kernel_rfl) (fun w _ => by kernel_rfl) ?_
  intro b1 hb1 Hb1
  refine S_newv (fun nb0 => pt nb0 0) [wd (lb b 0), wd (lb b 1), wd (lb b 2), wd (lb b 3)] 34 (by kernel_rfl) (fun w _ => by kernel_rfl) ?_
  intro b2 hb2 Hb2
  refine S_newv (fun nb0 => pt nb0 0) [.int .u64 0, .int .u64 0, .int .u64 0, .int .u64 0] 34 (by kernel_rfl) (fun w _ => by kernel_rfl) ?_
  intro b3 hb3 Hb3
  refine S_nil ?_
  refine E_then ?_
  refine C_seq ?_
  refine C_seq ?_
  refine C_region ?_
  refine S_v (.int .i64 0) ?_
  refine S_nil ?_
  refine E_then ?_
  refine C_block ?_
  refine C_unroll 5 ?_
  refine R_succ ?_
  refine C_forget (fun g => ⟨#[.int .u64 18446744073709551615, g 1, g 2, g 3, pt b1 0, pt b2 0, pt b3 0, g 7, .int .i64 0, g 9, g 10, g 11, g 12, g 13, g 14, g 15, g 16, g 17, g 18, g 19, g 20, g 21, g 22, g 23, g 24, g 25], []⟩) (by kernel_rfl) ?_
  intro g
  refine C_seq ?_
  refine C_region ?_
  refine S_v (.bool true) ?_
  refine S_nil ?_
  refine E_then ?_
  refine C_seq ?_
  refine C_true (by kernel_rfl) ?_
  refine C_skip ?_
  refine E_then ?_
  refine C_seq ?_
  refine C_block ?_
  refine C_seq ?_
  refine C_region ?_
  refine S_v (.int .i64 0) ?_
  refine S_v (.int .i64 0) ?_
  refine S_nil ?_
  refine E_then ?_
  refine C_drawn [.pure, .pure, .pure, .held, .pure, .pure, .pure, .pure, .held, .pure, .pure, .pure, .pure, .eff] (by kernel_rfl) (by kernel_rfl) ?_
  refine D_v (.int .i64 0) ?_
  refine D_v (.int .i64 0) ?_
  refine D_v (pt b1 0) ?_
  refine D_held (wd (lb a 0)) (by kernel_rfl) (ld1 2 b1 0 [wd (lb a 0), wd (lb a 1), wd (lb a 2), wd (lb a 3)] 34 rfl (by kernel_rfl) Tryd.isAgg29 (by kernel_rfl) (by kernel_rfl)) ?_
  refine D_v (.int .u64 18446744073709551615) ?_
  refine D_val (wd (lb a 0)) (by kernel_rfl) (fun _ => fv (v := .int .u64 (IntKind.u64.wrap (((BitVec.ofInt IntKind.u64.bits ((lb a 0 : Nat) : Int)) &&& (BitVec.ofInt IntKind.u64.bits 18446744073709551615)).toNat : Int))) ((vint (u_and_full (lb a 0) (lb_lt a 0)))) (by kernel_rfl)) ?_
  refine D_v (.int .i64 0) ?_
  refine D_v (pt b2 0) ?_
  refine D_held (wd (lb b 0)) (by kernel_rfl) (ld1 1 b2 0 [wd (lb b 0), wd (lb b 1), wd (lb b 2), wd (lb b 3)] 34 rfl (by kernel_rfl) Tryd.isAgg29 (by kernel_rfl) (by kernel_rfl)) ?_
  refine D_v (.int .u64 18446744073709551615) ?_
  refine D_val (.int .u64 0) (by kernel_rfl) (fun _ => fv (v := .int .u64 (IntKind.u64.wrap (((BitVec.ofInt IntKind.u64.bits ((lb b 0 : Nat) : Int)) &&& ~~~(BitVec.ofInt IntKind.u64.bits 18446744073709551615)).toNat : Int))) ((vint (u_andNot_full (lb b 0) (lb_lt b 0)))) (by kernel_rfl)) ?_
  refine D_val (wd (lb a 0)) (by kernel_rfl) (fun _ => fv (v := .int .u64 (IntKind.u64.wrap (((BitVec.ofInt IntKind.u64.bits ((lb a 0 : Nat) : Int)) ||| (BitVec.ofInt IntKind.u64.bits 0)).toNat : Int))) ((vint (u_or_zero (lb a 0) (lb_lt a 0)))) (by kernel_rfl)) ?_
  refine D_v (pt b1 0) ?_
  refine D_do (by kernel_rfl) (st1 (v := wd (lb a 0)) (L' := [⟨b3, [.int .u64 0, .int .u64 0, .int .u64 0, .int .u64 0], 34⟩, ⟨b2, [wd (lb b 0), wd (lb b 1), wd (lb b 2), wd (lb b 3)], 34⟩, ⟨b1, [wd (lb a 0), wd (lb a 1), wd (lb a 2), wd (lb a 3)], 34⟩]) 2 b1 0 [wd (lb a 0), wd (lb a 1), wd (lb a 2), wd (lb a 3)] 34 rfl (by kernel_rfl) (by kernel_rfl) Tryd.sizeOf29 (by rfl) (by kernel_rfl) (by simp) (by kernel_rfl)) ?_
  refine D_nil ?_
  refine E_inblock ?_
  refine E_then ?_
  refine C_region ?_
  refine S_v (.int .i64 1) ?_
  refine S_v (.int .i64 1) ?_
  refine S_nil ?_
  refine E_rounds ?_
  refine R_succ ?_
  refine C_forget (fun g => ⟨#[.int .u64 18446744073709551615, g 1, g 2, g 3, pt b1 0, pt b2 0, pt b3 0, g 7, .int .i64 1, g 9, g 10, g 11, g 12, g 13, g 14, g 15, g 16, g 17, g 18, g 19, g 20, g 21, g 22, g 23, g 24, g 25], []⟩) (by kernel_rfl) ?_
  intro g
  refine C_seq ?_
  refine C_region ?_
  refine S_v (.bool true) ?_
  refine S_nil ?_
  refine E_then ?_
  refine C_seq ?_
  refine C_true (by kernel_rfl) ?_
  refine C_skip ?_
  refine E_then ?_
  refine C_seq ?_
  refine C_block ?_
  refine C_seq ?_
  refine C_region ?_
  refine S_v (.int .i64 1) ?_
  refine S_v (.int .i64 1) ?_
  refine S_nil ?_
  refine E_then ?_
  refine C_drawn [.pure, .pure, .pure, .held, .pure, .pure, .pure, .pure, .held, .pure, .pure, .pure, .pure, .eff] (by kernel_rfl) (by kernel_rfl) ?_
  refine D_v (.int .i64 1) ?_
  refine D_v (.int .i64 1) ?_
  refine D_v (pt b1 1) ?_
  refine D_held (wd (lb a 1)) (by kernel_rfl) (ld1 2 b1 1 [wd (lb a 0), wd (lb a 1), wd (lb a 2), wd (lb a 3)] 34 rfl (by kernel_rfl) Tryd.isAgg29 (by kernel_rfl) (by kernel_rfl)) ?_
  refine D_v (.int .u64 18446744073709551615) ?_
  refine D_val (wd (lb a 1)) (by kernel_rfl) (fun _ => fv (v := .int .u64 (IntKind.u64.wrap (((BitVec.ofInt IntKind.u64.bits ((lb a 1 : Nat) : Int)) &&& (BitVec.ofInt IntKind.u64.bits 18446744073709551615)).toNat : Int))) ((vint (u_and_full (lb a 1) (lb_lt a 1)))) (by kernel_rfl)) ?_
  refine D_v (.int .i64 1) ?_
  refine D_v (pt b2 1) ?_
  refine D_held (wd (lb b 1)) (by kernel_rfl) (ld1 1 b2 1 [wd (lb b 0), wd (lb b 1), wd (lb b 2), wd (lb b 3)] 34 rfl (by kernel_rfl) Tryd.isAgg29 (by kernel_rfl) (by kernel_rfl)) ?_
  refine D_v (.int .u64 18446744073709551615) ?_
  refine D_val (.int .u64 0) (by kernel_rfl) (fun _ => fv (v := .int .u64 (IntKind.u64.wrap (((BitVec.ofInt IntKind.u64.bits ((lb b 1 : Nat) : Int)) &&& ~~~(BitVec.ofInt IntKind.u64.bits 18446744073709551615)).toNat : Int))) ((vint (u_andNot_full (lb b 1) (lb_lt b 1)))) (by kernel_rfl)) ?_
  refine D_val (wd (lb a 1)) (by kernel_rfl) (fun _ => fv (v := .int .u64 (IntKind.u64.wrap (((BitVec.ofInt IntKind.u64.bits ((lb a 1 : Nat) : Int)) ||| (BitVec.ofInt IntKind.u64.bits 0)).toNat : Int))) ((vint (u_or_zero (lb a 1) (lb_lt a 1)))) (by kernel_rfl)) ?_
  refine D_v (pt b1 1) ?_
  refine D_do (by kernel_rfl) (st1 (v := wd (lb a 1)) (L' := [⟨b3, [.int .u64 0, .int .u64 0, .int .u64 0, .int .u64 0], 34⟩, ⟨b2, [wd (lb b 0), wd (lb b 1), wd (lb b 2), wd (lb b 3)], 34⟩, ⟨b1, [wd (lb a 0), wd (lb a 1), wd (lb a 2), wd (lb a 3)], 34⟩]) 2 b1 1 [wd (lb a 0), wd (lb a 1), wd (lb a 2), wd (lb a 3)] 34 rfl (by kernel_rfl) (by kernel_rfl) Tryd.sizeOf29 (by rfl) (by kernel_rfl) (by simp) (by kernel_rfl)) ?_
  refine D_nil ?_
  refine E_inblock ?_
  refine E_then ?_
  refine C_region ?_
  refine S_v (.int .i64 2) ?_
  refine S_v (.int .i64 2) ?_
  refine S_nil ?_
  refine E_rounds ?_
  refine R_succ ?_
  refine C_forget (fun g => ⟨#[.int .u64 18446744073709551615, g 1, g 2, g 3, pt b1 0, pt b2 0, pt b3 0, g 7, .int .i64 2, g 9, g 10, g 11, g 12, g 13, g 14, g 15, g 16, g 17, g 18, g 19, g 20, g 21, g 22, g 23, g 24, g 25], []⟩) (by kernel_rfl) ?_
  intro g
  refine C_seq ?_
  refine C_region ?_
  refine S_v (.bool true) ?_
  refine S_nil ?_
  refine E_then ?_
  refine C_seq ?_
  refine C_true (by kernel_rfl) ?_
  refine C_skip ?_
  refine E_then ?_
  refine C_seq ?_
  refine C_block ?_
  refine C_seq ?_
  refine C_region ?_
  refine S_v (.int .i64 2) ?_
  refine S_v (.int .i64 2) ?_
  refine S_nil ?_
  refine E_then ?_
  refine C_drawn [.pure, .pure, .pure, .held, .pure, .pure, .pure, .pure, .held, .pure, .pure, .pure, .pure, .eff] (by kernel_rfl) (by kernel_rfl) ?_
  refine D_v (.int .i64 2) ?_
  refine D_v (.int .i64 2) ?_
  refine D_v (pt b1 2) ?_
  refine D_held (wd (lb a 2)) (by kernel_rfl) (ld1 2 b1 2 [wd (lb a 0), wd (lb a 1), wd (lb a 2), wd (lb a 3)] 34 rfl (by kernel_rfl) Tryd.isAgg29 (by kernel_rfl) (by kernel_rfl)) ?_
  refine D_v (.int .u64 18446744073709551615) ?_
  refine D_val (wd (lb a 2)) (by kernel_rfl) (fun _ => fv (v := .int .u64 (IntKind.u64.wrap (((BitVec.ofInt IntKind.u64.bits ((lb a 2 : Nat) : Int)) &&& (BitVec.ofInt IntKind.u64.bits 18446744073709551615)).toNat : Int))) ((vint (u_and_full (lb a 2) (lb_lt a 2)))) (by kernel_rfl)) ?_
  refine D_v (.int .i64 2) ?_
  refine D_v (pt b2 2) ?_
  refine D_held (wd (lb b 2)) (by kernel_rfl) (ld1 1 b2 2 [wd (lb b 0), wd (lb b 1), wd (lb b 2), wd (lb b 3)] 34 rfl (by kernel_rfl) Tryd.isAgg29 (by kernel_rfl) (by kernel_rfl)) ?_
  refine D_v (.int .u64 18446744073709551615) ?_
  refine D_val (.int .u64 0) (by kernel_rfl) (fun _ => fv (v := .int .u64 (IntKind.u64.wrap (((BitVec.ofInt IntKind.u64.bits ((lb b 2 : Nat) : Int)) &&& ~~~(BitVec.ofInt IntKind.u64.bits 18446744073709551615)).toNat : Int))) ((vint (u_andNot_full (lb b 2) (lb_lt b 2)))) (by kernel_rfl)) ?_
  refine D_val (wd (lb a 2)) (by kernel_rfl) (fun _ => fv (v := .int .u64 (IntKind.u64.wrap (((BitVec.ofInt IntKind.u64.bits ((lb a 2 : Nat) : Int)) ||| (BitVec.ofInt IntKind.u64.bits 0)).toNat : Int))) ((vint (u_or_zero (lb a 2) (lb_lt a 2)))) (by kernel_rfl)) ?_
  refine D_v (pt b1 2) ?_
  refine D_do (by kernel_rfl) (st1 (v := wd (lb a 2)) (L' := [⟨b3, [.int .u64 0, .int .u64 0, .int .u64 0, .int .u64 0], 34⟩, ⟨b2, [wd (lb b 0), wd (lb b 1), wd (lb b 2), wd (lb b 3)], 34⟩, ⟨b1, [wd (lb a 0), wd (lb a 1), wd (lb a 2), wd (lb a 3)], 34⟩]) 2 b1 2 [wd (lb a 0), wd (lb a 1), wd (lb a 2), wd (lb a 3)] 34 rfl (by kernel_rfl) (by kernel_rfl) Tryd.sizeOf29 (by rfl) (by kernel_rfl) (by simp) (by kernel_rfl)) ?_
  refine D_nil ?_
  refine E_inblock ?_
  refine E_then ?_
  refine C_region ?_
  refine S_v (.int .i64 3) ?_
  refine S_v (.int .i64 3) ?_
  refine S_nil ?_
  refine E_rounds ?_
  refine R_succ ?_
  refine C_forget (fun g => ⟨#[.int .u64 18446744073709551615, g 1, g 2, g 3, pt b1 0, pt b2 0, pt b3 0, g 7, .int .i64 3, g 9, g 10, g 11, g 12, g 13, g 14, g 15, g 16, g 17, g 18, g 19, g 20, g 21, g 22, g 23, g 24, g 25], []⟩) (by kernel_rfl) ?_
  intro g
  refine C_seq ?_
  refine C_region ?_
  refine S_v (.bool true) ?_
  refine S_nil ?_
  refine E_then ?_
  refine C_seq ?_
  refine C_true (by kernel_rfl) ?_
  refine C_skip ?_
  refine E_then ?_
  refine C_seq ?_
  refine C_block ?_
  refine C_seq ?_
  refine C_region ?_
  refine S_v (.int .i64 3) ?_
  refine S_v (.int .i64 3) ?_
  refine S_nil ?_
  refine E_then ?_
  refine C_drawn [.pure, .pure, .pure, .held, .pure, .pure, .pure, .pure, .held, .pure, .pure, .pure, .pure, .eff] (by kernel_rfl) (by kernel_rfl) ?_
  refine D_v (.int .i64 3) ?_
  refine D_v (.int .i64 3) ?_
  refine D_v (pt b1 3) ?_
  refine D_held (wd (lb a 3)) (by kernel_rfl) (ld1 2 b1 3 [wd (lb a 0), wd (lb a 1), wd (lb a 2), wd (lb a 3)] 34 rfl (by kernel_rfl) Tryd.isAgg29 (by kernel_rfl) (by kernel_rfl)) ?_
  refine D_v (.int .u64 18446744073709551615) ?_
  refine D_val (wd (lb a 3)) (by kernel_rfl) (fun _ => fv (v := .int .u64 (IntKind.u64.wrap (((BitVec.ofInt IntKind.u64.bits ((lb a 3 : Nat) : Int)) &&& (BitVec.ofInt IntKind.u64.bits 18446744073709551615)).toNat : Int))) ((vint (u_and_full (lb a 3) (lb_lt a 3)))) (by kernel_rfl)) ?_
  refine D_v (.int .i64 3) ?_
  refine D_v (pt b2 3) ?_
  refine D_held (wd (lb b 3)) (by kernel_rfl) (ld1 1 b2 3 [wd (lb b 0), wd (lb b 1), wd (lb b 2), wd (lb b 3)] 34 rfl (by kernel_rfl) Tryd.isAgg29 (by kernel_rfl) (by kernel_rfl)) ?_
  refine D_v (.int .u64 18446744073709551615) ?_
  refine D_val (.int .u64 0) (by kernel_rfl) (fun _ => fv (v := .int .u64 (IntKind.u64.wrap (((BitVec.ofInt IntKind.u64.bits ((lb b 3 : Nat) : Int)) &&& ~~~(BitVec.ofInt IntKind.u64.bits 18446744073709551615)).toNat : Int))) ((vint (u_andNot_full (lb b 3) (lb_lt b 3)))) (by kernel_rfl)) ?_
  refine D_val (wd (lb a 3)) (by kernel_rfl) (fun _ => fv (v := .int .u64 (IntKind.u64.wrap (((BitVec.ofInt IntKind.u64.bits ((lb a 3 : Nat) : Int)) ||| (BitVec.ofInt IntKind.u64.bits 0)).toNat : Int))) ((vint (u_or_zero (lb a 3) (lb_lt a 3)))) (by kernel_rfl)) ?_
  refine D_v (pt b1 3) ?_
  refine D_do (by kernel_rfl) (st1 (v := wd (lb a 3)) (L' := [⟨b3, [.int .u64 0, .int .u64 0, .int .u64 0, .int .u64 0], 34⟩, ⟨b2, [wd (lb b 0), wd (lb b 1), wd (lb b 2), wd (lb b 3)], 34⟩, ⟨b1, [wd (lb a 0), wd (lb a 1), wd (lb a 2), wd (lb a 3)], 34⟩]) 2 b1 3 [wd (lb a 0), wd (lb a 1), wd (lb a 2), wd (lb a 3)] 34 rfl (by kernel_rfl) (by kernel_rfl) Tryd.sizeOf29 (by rfl) (by kernel_rfl) (by simp) (by kernel_rfl)) ?_
  refine D_nil ?_
  refine E_inblock ?_
  refine E_then ?_
  refine C_region ?_
  refine S_v (.int .i64 4) ?_
  refine S_v (.int .i64 4) ?_
  refine S_nil ?_
  refine E_rounds ?_
  refine R_succ ?_
  refine C_forget (fun g => ⟨#[.int .u64 18446744073709551615, g 1, g 2, g 3, pt b1 0, pt b2 0, pt b3 0, g 7, .int .i64 4, g 9, g 10, g 11, g 12, g 13, g 14, g 15, g 16, g 17, g 18, g 19, g 20, g 21, g 22, g 23, g 24, g 25], []⟩) (by kernel_rfl) ?_
  intro g
  refine C_seq ?_
  refine C_region ?_
  refine S_v (.bool false) ?_
  refine S_nil ?_
  refine E_then ?_
  refine C_seq ?_
  refine C_false (by kernel_rfl) ?_
  refine C_exit ?_
  refine E_pass_exit ?_
  refine E_pass_exit ?_
  refine E_outblock ?_
  refine E_then ?_
  refine C_seq ?_
  refine C_region ?_
  refine S_val (sc4 a) (by kernel_rfl) (ldN [wd (lb a 0), wd (lb a 1), wd (lb a 2), wd (lb a 3)] 2 b1 0 [wd (lb a 0), wd (lb a 1), wd (lb a 2), wd (lb a 3)] 34 rfl (by kernel_rfl) Tryd.isAgg34 Tryd.sizeOf34 (by kernel_rfl) (by kernel_rfl)) ?_
  refine S_do (by kernel_rfl) (stN (L' := [⟨b3, [wd (lb a 0), wd (lb a 1), wd (lb a 2), wd (lb a 3)], 34⟩, ⟨b2, [wd (lb b 0), wd (lb b 1), wd (lb b 2), wd (lb b 3)], 34⟩, ⟨b1, [wd (lb a 0), wd (lb a 1), wd (lb a 2), wd (lb a 3)], 34⟩]) [wd (lb a 0), wd (lb a 1), wd (lb a 2), wd (lb a 3)] 0 b3 0 [.int .u64 0, .int .u64 0, .int .u64 0, .int .u64 0] 34 rfl (by kernel_rfl) (by kernel_rfl) Tryd.sizeOf34 (by simp [Value.oneCell']) (by kernel_rfl) (by simp) (by kernel_rfl)) ?_
  refine S_nil ?_
  refine E_then ?_
  refine C_ret ?_
  exact pure_ret rfl (resC Tryd.results56 [wd (lb a 0), wd (lb a 1), wd (lb a 2), wd (lb a 3)] 0 b3 34 (by kernel_rfl) Tryd.isAgg34 Tryd.sizeOf34 (by kernel_rfl))
theorem c_choose (u m a b : Nat) (hu : u ≤ 1) (hm : m = (18446744073709551616 - u) % 18446744073709551616) : Pure Tryd.prog 56 #[wd m, sc4 a, sc4 b] (sc4 (if u = 1 then a else b)) := by
  have : u = 0 ∨ u = 1 := by omega
  rcases this with rfl | rfl
  · subst hm; exact c_choose0 a b
  · subst hm; exact c_choose1 a b
theorem c_lower (w0 : World) (hT : GV 0 tbS w0) (a : Nat) (ha : a < W256) : Calls Tryd.prog 55 #[sc4 a] w0 fun e w' => e = .returned (sc4 (low a)) ∧ Below w0.heap.size w0 w' := by
  refine calls_start Tryd.func55 rfl ?_
  refine C_seq ?_
  refine C_region ?_
  refine S_newv (fun nb0 => pt nb0 0) [wd (lb a 0), wd (lb a 1), wd (lb a 2), wd (lb a 3)] 34 (by kernel_rfl) (fun w _ => by kernel_rfl) ?_
  intro b1 hb1 Hb1
  refine S_newv (fun nb0 => pt nb0 0) [.int .u64 0, .int .u64 0, .int .u64 0, .int .u64 0] 34 (by kernel_rfl) (fun w _ => by kernel_rfl) ?_
  intro b2 hb2 Hb2
  refine S_nil ?_
  refine E_then ?_
  refine C_seq ?_
  refine C_region ?_
  refine S_val (sc4 a) (by kernel_rfl) (ldN [wd (lb a 0), wd (lb a 1), wd (lb a 2), wd (lb a 3)] 1 b1 0 [wd (lb a 0), wd (lb a 1), wd (lb a 2), wd (lb a 3)] 34 rfl (by kernel_rfl) Tryd.isAgg34 Tryd.sizeOf34 (by kernel_rfl) (by kernel_rfl)) ?_
  refine S_v (pt 0 0) ?_
  refine S_val (.agg #[.int .u64 6346243789798364141, .int .u64 1503914060200516822, .int .u64 0, .int .u64 1152921504606846976]) (by kernel_rfl) (ldNo [.int .u64 6346243789798364141, .int .u64 1503914060200516822, .int .u64 0, .int .u64 1152921504606846976] 0 0 rfl (by kernel_rfl) Tryd.isAgg34 Tryd.sizeOf34 (hT.sub 0 [.int .u64 6346243789798364141, .int .u64 1503914060200516822, .int .u64 0, .int .u64 1152921504606846976] (by kernel_rfl))) ?_
  refine S_pure (v := .tuple #[sc4 (mi a ll), wd (bw a ll)]) (by kernel_rfl) (c_minus a ll ha (by decide)) (fun _ => by kernel_rfl) ?_
  refine S_v (.tuple #[sc4 (mi a ll), wd (bw a ll)]) ?_
  refine S_v (sc4 (mi a ll)) ?_
  refine S_v (wd (bw a ll)) ?_
  refine S_newv (fun nb0 => pt nb0 0) [.int .u64 0, .int .u64 0, .int .u64 0, .int .u64 0] 34 (by kernel_rfl) (fun w _ => by kernel_rfl) ?_
  intro b3 hb3 Hb3
  refine S_do (by kernel_rfl) (stN (L' := [⟨b3, [wd (lb (mi a ll) 0), wd (lb (mi a ll) 1), wd (lb (mi a ll) 2), wd (lb (mi a ll) 3)], 34⟩, ⟨b2, [.int .u64 0, .int .u64 0, .int .u64 0, .int .u64 0], 34⟩, ⟨b1, [wd (lb a 0), wd (lb a 1), wd (lb a 2), wd (lb a 3)], 34⟩]) [wd (lb (mi a ll) 0), wd (lb (mi a ll) 1), wd (lb (mi a ll) 2), wd (lb (mi a ll) 3)] 0 b3 0 [.int .u64 0, .int .u64 0, .int .u64 0, .int .u64 0] 34 rfl (by kernel_rfl) (by kernel_rfl) Tryd.sizeOf34 (by simp [Value.oneCell']) (by kernel_rfl) (by simp) (by kernel_rfl)) ?_
  refine S_v (wd (bw a ll)) ?_
  refine S_nil ?_
  refine E_then ?_
  refine C_seq ?_
  refine C_region ?_
  refine S_v (wd (bw a ll)) ?_
  obtain ⟨x4, hx4, lx4⟩ : ∃ q, q = (18446744073709551616 - (bw a ll)) % 18446744073709551616 ∧ q < 18446744073709551616 := ⟨_, rfl, Nat.mod_lt _ (by decide)⟩
  refine S_val (wd x4) (by kernel_rfl) (fun _ _ => fv (v := .int .u64 (IntKind.u64.wrap (0 - ((bw a ll : Nat) : Int)))) ((vint (hx4 ▸ u_neg (bw a ll) (by have := (bw_lt64 a ll); omega)))) (by kernel_rfl)) ?_
  refine S_val (sc4 a) (by kernel_rfl) (ldN [wd (lb a 0), wd (lb a 1), wd (lb a 2), wd (lb a 3)] 2 b1 0 [wd (lb a 0), wd (lb a 1), wd (lb a 2), wd (lb a 3)] 34 rfl (by kernel_rfl) Tryd.isAgg34 Tryd.sizeOf34 (by kernel_rfl) (by kernel_rfl)) ?_
  refine S_val (sc4 (mi a ll)) (by kernel_rfl) (ldN [wd (lb (mi a ll) 0), wd (lb (mi a ll) 1), wd (lb (mi a ll) 2), wd (lb (mi a ll) 3)] 0 b3 0 [wd (lb (mi a ll) 0), wd (lb (mi a ll) 1), wd (lb (mi a ll) 2), wd (lb (mi a ll) 3)] 34 rfl (by kernel_rfl) Tryd.isAgg34 Tryd.sizeOf34 (by kernel_rfl) (by kernel_rfl)) ?_
  refine S_pure (v := sc4 (if bw a ll = 1 then a else (mi a ll))) (by kernel_rfl) (c_choose (bw a ll) x4 a (mi a ll) (bw_le _ _) hx4) (fun _ => by kernel_rfl) ?_
  refine S_do (by kernel_rfl) (stN (L' := [⟨b3, [wd (lb (mi a ll) 0), wd (lb (mi a ll) 1), wd (lb (mi a ll) 2), wd (lb (mi a ll) 3)], 34⟩, ⟨b2, [wd (lb (if bw a ll = 1 then a else (mi a ll)) 0), wd (lb (if bw a ll = 1 then a else (mi a ll)) 1), wd (lb (if bw a ll = 1 then a else (mi a ll)) 2), wd (lb (if bw a ll = 1 then a else (mi a ll)) 3)], 34⟩, ⟨b1, [wd (lb a 0), wd (lb a 1), wd (lb a 2), wd (lb a 3)], 34⟩]) [wd (lb (if bw a ll = 1 then a else (mi a ll)) 0), wd (lb (if bw a ll = 1 then a else (mi a ll)) 1), wd (lb (if bw a ll = 1 then a else (mi a ll)) 2), wd (lb (if bw a ll = 1 then a else (mi a ll)) 3)] 1 b2 0 [.int .u64 0, .int .u64 0, .int .u64 0, .int .u64 0] 34 rfl (by kernel_rfl) (by kernel_rfl) Tryd.sizeOf34 (by simp [Value.oneCell']) (by kernel_rfl) (by simp) (by kernel_rfl)) ?_
  refine S_nil ?_
  refine E_then ?_
  refine C_ret ?_
  rw [← lower_law a ha]
  exact pure_ret rfl (resC Tryd.results55 [wd (lb (if bw a ll = 1 then a else (mi a ll)) 0), wd (lb (if bw a ll = 1 then a else (mi a ll)) 1), wd (lb (if bw a ll = 1 then a else (mi a ll)) 2), wd (lb (if bw a ll = 1 then a else (mi a ll)) 3)] 1 b2 34 (by kernel_rfl) Tryd.isAgg34 Tryd.sizeOf34 (by kernel_rfl))
theorem c_mul64 (x y : Nat) (hx : x < 18446744073709551616) (hy : y < 18446744073709551616) : Pure Tryd.prog 51 #[wd x, wd y] (.tuple #[wd (x * y / 18446744073709551616), wd (x * y % 18446744073709551616)]) := by
  refine pure_of Tryd.func51 rfl (fun w0 => ?_)
  refine C_seq ?_
  refine C_region ?_
  refine S_v (.int .u64 0) ?_
  refine S_v (.int .u64 0) ?_
  refine S_nil ?_
  refine E_then ?_
  refine C_seq ?_
  refine C_region ?_
  refine S_v (wd x) ?_
  obtain ⟨x1, hx1, lx1, mx1⟩ : ∃ q, q = x % 2 ^ 32 ∧ q < 18446744073709551616 ∧ q < 2 ^ 32 := ⟨_, rfl, by omega, Nat.mod_lt _ (by decide)⟩
  refine S_val (wd x1) (by kernel_rfl) (fun _ _ => fv (v := .int .u64 (IntKind.u64.wrap (((BitVec.ofInt IntKind.u64.bits ((x : Nat) : Int)) &&& (BitVec.ofInt IntKind.u64.bits 4294967295)).toNat : Int))) ((vint (hx1 ▸ u_and_mask x 32 hx (by decide)))) (by kernel_rfl)) ?_
  refine S_v (wd x1) ?_
  refine S_nil ?_
  refine E_then ?_
  refine C_seq ?_
  refine C_region ?_
  refine S_v (wd x) ?_
  obtain ⟨x2, hx2⟩ : ∃ q, q = x / 2 ^ 32 := ⟨_, rfl⟩
  have lx2 : x2 < 18446744073709551616 := by rw [hx2]; exact Nat.lt_of_le_of_lt (Nat.div_le_self _ _) hx
  refine S_val (wd x2) (by kernel_rfl) (fun _ _ => fv (v := .int .u64 (((x : Nat) : Int).fdiv (2 ^ 32))) ((vint (hx2 ▸ u_shr x 32))) (by kernel_rfl)) ?_
  refine S_v (wd x2) ?_
  refine S_nil ?_
  refine E_then ?_
  refine C_seq ?_
  refine C_region ?_
  refine S_v (wd y) ?_
  obtain ⟨x3, hx3, lx3, mx3⟩ : ∃ q, q = y % 2 ^ 32 ∧ q < 18446744073709551616 ∧ q < 2 ^ 32 := ⟨_, rfl, by omega, Nat.mod_lt _ (by decide)⟩
  refine S_val (wd x3) (by kernel_rfl) (fun _ _ => fv (v := .int .u64 (IntKind.u64.wrap (((BitVec.ofInt IntKind.u64.bits ((y : Nat) : Int)) &&& (BitVec.ofInt IntKind.u64.bits 4294967295)).toNat : Int))) ((vint (hx3 ▸ u_and_mask y 32 hy (by decide)))) (by kernel_rfl)) ?_
  refine S_v (wd x3) ?_
  refine S_nil ?_
  refine E_then ?_
  refine C_seq ?_
  refine C_region ?_
  refine S_v (wd y) ?_
  obtain ⟨x4, hx4⟩ : ∃ q, q = y / 2 ^ 32 := ⟨_, rfl⟩
  have lx4 : x4 < 18446744073709551616 := by rw [hx4]; exact Nat.lt_of_le_of_lt (Nat.div_le_self _ _) hy
  refine S_val (wd x4) (by kernel_rfl) (fun _ _ => fv (v := .int .u64 (((y : Nat) : Int).fdiv (2 ^ 32))) ((vint (hx4 ▸ u_shr y 32))) (by kernel_rfl)) ?_
  refine S_v (wd x4) ?_
  refine S_nil ?_
  refine E_then ?_
  refine C_seq ?_
  refine C_region ?_
  refine S_v (wd x1) ?_
  refine S_v (wd x3) ?_
  obtain ⟨x5, hx5, lx5⟩ : ∃ q, q = (x1 * x3) % 18446744073709551616 ∧ q < 18446744073709551616 := ⟨_, rfl, Nat.mod_lt _ (by decide)⟩
  refine S_val (wd x5) (by kernel_rfl) (fun _ _ => fv (v := .int .u64 (IntKind.u64.wrap (((x1 : Nat) : Int) * ((x3 : Nat) : Int)))) ((vint (hx5 ▸ u_mul x1 x3))) (by kernel_rfl)) ?_
  refine S_v (wd x5) ?_
  refine S_nil ?_
  refine E_then ?_
  refine C_seq ?_
  refine C_region ?_
  refine S_v (wd x2) ?_
  refine S_v (wd x3) ?_
  obtain ⟨x6, hx6, lx6⟩ : ∃ q, q = (x2 * x3) % 18446744073709551616 ∧ q < 18446744073709551616 := ⟨_, rfl, Nat.mod_lt _ (by decide)⟩
  refine S_val (wd x6) (by kernel_rfl) (fun _ _ => fv (v := .int .u64 (IntKind.u64.wrap (((x2 : Nat) : Int) * ((x3 : Nat) : Int)))) ((vint (hx6 ▸ u_mul x2 x3))) (by kernel_rfl)) ?_
  refine S_v (wd x5) ?_
  obtain ⟨x7, hx7⟩ : ∃ q, q = x5 / 2 ^ 32 := ⟨_, rfl⟩
  have lx7 : x7 < 18446744073709551616 := by rw [hx7]; exact Nat.lt_of_le_of_lt (Nat.div_le_self _ _) lx5
  refine S_val (wd x7) (by kernel_rfl) (fun _ _ => fv (v := .int .u64 (((x5 : Nat) : Int).fdiv (2 ^ 32))) ((vint (hx7 ▸ u_shr x5 32))) (by kernel_rfl)) ?_
  obtain ⟨x8, hx8, lx8⟩ : ∃ q, q = (x6 + x7) % 18446744073709551616 ∧ q < 18446744073709551616 := ⟨_, rfl, Nat.mod_lt _ (by decide)⟩
  refine S_val (wd x8) (by kernel_rfl) (fun _ _ => fv (v := .int .u64 (IntKind.u64.wrap (((x6 : Nat) : Int) + ((x7 : Nat) : Int)))) ((vint (hx8 ▸ u_add x6 x7))) (by kernel_rfl)) ?_
  refine S_v (wd x8) ?_
  refine S_nil ?_
  refine E_then ?_
  refine C_seq ?_
  refine C_region ?_
  refine S_v (wd x8) ?_
  obtain ⟨x9, hx9, lx9, mx9⟩ : ∃ q, q = x8 % 2 ^ 32 ∧ q < 18446744073709551616 ∧ q < 2 ^ 32 := ⟨_, rfl, by omega, Nat.mod_lt _ (by decide)⟩
  refine S_val (wd x9) (by kernel_rfl) (fun _ _ => fv (v := .int .u64 (IntKind.u64.wrap (((BitVec.ofInt IntKind.u64.bits ((x8 : Nat) : Int)) &&& (BitVec.ofInt IntKind.u64.bits 4294967295)).toNat : Int))) ((vint (hx9 ▸ u_and_mask x8 32 lx8 (by decide)))) (by kernel_rfl)) ?_
  refine S_v (wd x9) ?_
  refine S_nil ?_
  refine E_then ?_
  refine C_seq ?_
  refine C_region ?_
  refine S_v (wd x8) ?_
  obtain ⟨x10, hx10⟩ : ∃ q, q = x8 / 2 ^ 32 := ⟨_, rfl⟩
  have lx10 : x10 < 18446744073709551616 := by rw [hx10]; exact Nat.lt_of_le_of_lt (Nat.div_le_self _ _) lx8
  refine S_val (wd x10) (by kernel_rfl) (fun _ _ => fv (v := .int .u64 (((x8 : Nat) : Int).fdiv (2 ^ 32))) ((vint (hx10 ▸ u_shr x8 32))) (by kernel_rfl)) ?_
  refine S_v (wd x10) ?_
  refine S_nil ?_
  refine E_then ?_
  refine C_seq ?_
  refine C_region ?_
  refine S_v (wd x9) ?_
  refine S_v (wd x1) ?_
  refine S_v (wd x4) ?_
  obtain ⟨x11, hx11, lx11⟩ : ∃ q, q = (x1 * x4) % 18446744073709551616 ∧ q < 18446744073709551616 := ⟨_, rfl, Nat.mod_lt _ (by decide)⟩
  refine S_val (wd x11) (by kernel_rfl) (fun _ _ => fv (v := .int .u64 (IntKind.u64.wrap (((x1 : Nat) : Int) * ((x4 : Nat) : Int)))) ((vint (hx11 ▸ u_mul x1 x4))) (by kernel_rfl)) ?_
  obtain ⟨x12, hx12, lx12⟩ : ∃ q, q = (x9 + x11) % 18446744073709551616 ∧ q < 18446744073709551616 := ⟨_, rfl, Nat.mod_lt _ (by decide)⟩
  refine S_val (wd x12) (by kernel_rfl) (fun _ _ => fv (v := .int .u64 (IntKind.u64.wrap (((x9 : Nat) : Int) + ((x11 : Nat) : Int)))) ((vint (hx12 ▸ u_add x9 x11))) (by kernel_rfl)) ?_
  refine S_v (wd x12) ?_
  refine S_nil ?_
  refine E_then ?_
  refine C_seq ?_
  refine C_region ?_
  refine S_v (wd x2) ?_
  refine S_v (wd x4) ?_
  obtain ⟨x13, hx13, lx13⟩ : ∃ q, q = (x2 * x4) % 18446744073709551616 ∧ q < 18446744073709551616 := ⟨_, rfl, Nat.mod_lt _ (by decide)⟩
  refine S_val (wd x13) (by kernel_rfl) (fun _ _ => fv (v := .int .u64 (IntKind.u64.wrap (((x2 : Nat) : Int) * ((x4 : Nat) : Int)))) ((vint (hx13 ▸ u_mul x2 x4))) (by kernel_rfl)) ?_
  refine S_v (wd x10) ?_
  obtain ⟨x14, hx14, lx14⟩ : ∃ q, q = (x13 + x10) % 18446744073709551616 ∧ q < 18446744073709551616 := ⟨_, rfl, Nat.mod_lt _ (by decide)⟩
  refine S_val (wd x14) (by kernel_rfl) (fun _ _ => fv (v := .int .u64 (IntKind.u64.wrap (((x13 : Nat) : Int) + ((x10 : Nat) : Int)))) ((vint (hx14 ▸ u_add x13 x10))) (by kernel_rfl)) ?_
  refine S_v (wd x12) ?_
  obtain ⟨x15, hx15⟩ : ∃ q, q = x12 / 2 ^ 32 := ⟨_, rfl⟩
  have lx15 : x15 < 18446744073709551616 := by rw [hx15]; exact Nat.lt_of_le_of_lt (Nat.div_le_self _ _) lx12
  refine S_val (wd x15) (by kernel_rfl) (fun _ _ => fv (v := .int .u64 (((x12 : Nat) : Int).fdiv (2 ^ 32))) ((vint (hx15 ▸ u_shr x12 32))) (by kernel_rfl)) ?_
  obtain ⟨x16, hx16, lx16⟩ : ∃ q, q = (x14 + x15) % 18446744073709551616 ∧ q < 18446744073709551616 := ⟨_, rfl, Nat.mod_lt _ (by decide)⟩
  refine S_val (wd x16) (by kernel_rfl) (fun _ _ => fv (v := .int .u64 (IntKind.u64.wrap (((x14 : Nat) : Int) + ((x15 : Nat) : Int)))) ((vint (hx16 ▸ u_add x14 x15))) (by kernel_rfl)) ?_
  refine S_v (wd x16) ?_
  refine S_nil ?_
  refine E_then ?_
  refine C_seq ?_
  refine C_region ?_
  refine S_v (wd x) ?_
  refine S_v (wd y) ?_
  obtain ⟨x17, hx17, lx17⟩ : ∃ q, q = (x * y) % 18446744073709551616 ∧ q < 18446744073709551616 := ⟨_, rfl, Nat.mod_lt _ (by decide)⟩
  refine S_val (wd x17) (by kernel_rfl) (fun _ _ => fv (v := .int .u64 (IntKind.u64.wrap (((x : Nat) : Int) * ((y : Nat) : Int)))) ((vint (hx17 ▸ u_mul x y))) (by kernel_rfl)) ?_
  refine S_v (wd x17) ?_
  refine S_nil ?_
  refine E_then ?_
  refine C_ret ?_
  rw [← mul_hi hx hy hx1 hx2 hx3 hx4 hx5 hx6 hx7 hx8 hx9 hx10 hx11 hx12 hx13 hx14 hx15 hx16, ← hx17]
  exact pure_ret rfl (resM (rs := [.tmp 4, .tmp 5]) Tryd.results51 [wd x16, wd x17] (by simp) (fun w hO => (.tmp (by kernel_rfl) (.tmp (by kernel_rfl) .nil))))
theorem mul64_ex (x y : Nat) (hx : x < 18446744073709551616) (hy : y < 18446744073709551616) : ∃ hi lo, hi = x * y / 18446744073709551616 ∧ lo = x * y % 18446744073709551616 ∧ hi < 18446744073709551616 ∧ lo < 18446744073709551616 ∧ Pure Tryd.prog 51 #[wd x, wd y] (.tuple #[wd hi, wd lo]) :=
  ⟨_, _, rfl, rfl, by have := Nat.mul_le_mul (show x ≤ 18446744073709551615 by omega) (show y ≤ 18446744073709551615 by omega); generalize x * y = A at *; omega, Nat.mod_lt _ (by decide), c_mul64 x y hx hy⟩
theorem c_into (x y z c : Nat) (hx : x < 18446744073709551616) (hy : y < 18446744073709551616) (hz : z < 18446744073709551616) (hc : c < 18446744073709551616) : Pure Tryd.prog 57 #[wd x, wd y, wd z, wd c] (.tuple #[wd ((x * y + z + c) % 18446744073709551616), wd ((x * y + z + c) / 18446744073709551616)]) := by
  refine pure_of Tryd.func57 rfl (fun w0 => ?_)
  refine C_seq ?_
  refine C_region ?_
  refine S_v (.int .u64 0) ?_
  refine S_v (.int .u64 0) ?_
  refine S_nil ?_
  refine E_then ?_
  refine C_seq ?_
  refine C_region ?_
  refine S_v (wd x) ?_
  refine S_v (wd y) ?_
  obtain ⟨x1, x2, hx1, hx2, lx1, lx2, px1⟩ := mul64_ex x y hx hy
  refine S_pure (v := .tuple #[wd x1, wd x2]) (by kernel_rfl) px1 (fun _ => by kernel_rfl) ?_
  refine S_v (.tuple #[wd x1, wd x2]) ?_
  refine S_v (wd x1) ?_
  refine S_v (wd x2) ?_
  refine S_v (wd x1) ?_
  refine S_v (wd x2) ?_
  refine S_nil ?_
  refine E_then ?_
  refine C_seq ?_
  refine C_region ?_
  refine S_v (wd x2) ?_
  refine S_v (wd z) ?_
  obtain ⟨x3, k4, ex3, lx3, ok4, hx3, hk4⟩ := addc_ex x2 z 0 lx2 hz (by decide)
  refine S_val (.tuple #[wd x3, wd k4]) (by kernel_rfl) (fun w _ => fv (v := .tuple #[wd ((x2 + z + 0) % 18446744073709551616), wd ((x2 + z + 0) / 18446744073709551616)]) (by rw [hx3, hk4]) ((clv (x := .func 52) rfl (by kernel_rfl) (by kernel_rfl) (by kernel_rfl) (x_add x2 z 0 (by decide))) w)) ?_
  refine S_v (.tuple #[wd x3, wd k4]) ?_
  refine S_v (wd x3) ?_
  refine S_v (wd k4) ?_
  refine S_v (wd x3) ?_
  refine S_v (wd k4) ?_
  refine S_nil ?_
  refine E_then ?_
  refine C_seq ?_
  refine C_region ?_
  refine S_v (wd x1) ?_
  refine S_v (wd k4) ?_
  obtain ⟨x5, hx5, lx5⟩ : ∃ q, q = (x1 + k4) % 18446744073709551616 ∧ q < 18446744073709551616 := ⟨_, rfl, Nat.mod_lt _ (by decide)⟩
  refine S_val (wd x5) (by kernel_rfl) (fun _ _ => fv (v := .int .u64 (IntKind.u64.wrap (((x1 : Nat) : Int) + ((k4 : Nat) : Int)))) ((vint (hx5 ▸ u_add x1 k4))) (by kernel_rfl)) ?_
  refine S_v (wd x5) ?_
  refine S_nil ?_
  refine E_then ?_
  refine C_seq ?_
  refine C_region ?_
  refine S_v (wd x3) ?_
  refine S_v (wd c) ?_
  obtain ⟨x6, k7, ex6, lx6, ok7, hx6, hk7⟩ := addc_ex x3 c 0 lx3 hc (by decide)
  refine S_val (.tuple #[wd x6, wd k7]) (by kernel_rfl) (fun w _ => fv (v := .tuple #[wd ((x3 + c + 0) % 18446744073709551616), wd ((x3 + c + 0) / 18446744073709551616)]) (by rw [hx6, hk7]) ((clv (x := .func 52) rfl (by kernel_rfl) (by kernel_rfl) (by kernel_rfl) (x_add x3 c 0 (by decide))) w)) ?_
  refine S_v (.tuple #[wd x6, wd k7]) ?_
  refine S_v (wd x6) ?_
  refine S_v (wd k7) ?_
  refine S_v (wd x6) ?_
  refine S_v (wd k7) ?_
  refine S_nil ?_
  refine E_then ?_
  refine C_seq ?_
  refine C_region ?_
  refine S_v (wd x6) ?_
  refine S_v (wd x5) ?_
  refine S_v (wd k7) ?_
  obtain ⟨x8, hx8, lx8⟩ : ∃ q, q = (x5 + k7) % 18446744073709551616 ∧ q < 18446744073709551616 := ⟨_, rfl, Nat.mod_lt _ (by decide)⟩
  refine S_val (wd x8) (by kernel_rfl) (fun _ _ => fv (v := .int .u64 (IntKind.u64.wrap (((x5 : Nat) : Int) + ((k7 : Nat) : Int)))) ((vint (hx8 ▸ u_add x5 k7))) (by kernel_rfl)) ?_
  refine S_v (wd x6) ?_
  refine S_v (wd x8) ?_
  refine S_nil ?_
  refine E_then ?_
  refine C_ret ?_
  have E := into_law hx hy hz hc hx1 hx2 hx3 hk4 hx5 hx6 hk7 hx8
  have q1 : x6 = (x * y + z + c) % 18446744073709551616 := by omega
  have q2 : x8 = (x * y + z + c) / 18446744073709551616 := by omega
  rw [← q1, ← q2]
  exact pure_ret rfl (resM (rs := [.tmp 8, .tmp 9]) Tryd.results57 [wd x6, wd x8] (by simp) (fun w hO => (.tmp (by kernel_rfl) (.tmp (by kernel_rfl) .nil))))
theorem into_ex (x y z c : Nat) (hx : x < 18446744073709551616) (hy : y < 18446744073709551616) (hz : z < 18446744073709551616) (hc : c < 18446744073709551616) : ∃ lo hi, lo + 18446744073709551616 * hi = x * y + z + c ∧ lo < 18446744073709551616 ∧ hi < 18446744073709551616 ∧ Pure Tryd.prog 57 #[wd x, wd y, wd z, wd c] (.tuple #[wd lo, wd hi]) :=
  ⟨_, _, Nat.mod_add_div _ _, Nat.mod_lt _ (by decide), by have := Nat.mul_le_mul (show x ≤ 18446744073709551615 by omega) (show y ≤ 18446744073709551615 by omega); generalize x * y = A at *; omega, c_into x y z c hx hy hz hc⟩
theorem c_product (w0 : World) (hT : GV 0 tbS w0) (a b : Nat) (ha : a < ll) (hb : b < ll) : Calls Tryd.prog 32 #[sc4 a, sc4 b] w0 fun e w' => e = .returned (sc4 (mont a b)) ∧ Below w0.heap.size w0 w' := by
  refine calls_start Tryd.func32 rfl ?_
  refine C_seq ?_
  refine C_region ?_
  refine S_newv (fun nb0 => pt nb0 0) [wd (lb a 0), wd (lb a 1), wd (lb a 2), wd (lb a 3)] 34 (by kernel_rfl) (fun w _ => by kernel_rfl) ?_
  intro b1 hb1 Hb1
  refine S_newv (fun nb0 => pt nb0 0) [wd (lb b 0), wd (lb b 1), wd (lb b 2), wd (lb b 3)] 34 (by kernel_rfl) (fun w _ => by kernel_rfl) ?_
  intro b2 hb2 Hb2
  refine S_newv (fun nb0 => pt nb0 0) [.int .u64 0, .int .u64 0, .int .u64 0, .int .u64 0] 34 (by kernel_rfl) (fun w _ => by kernel_rfl) ?_
  intro b3 hb3 Hb3
  refine S_nil ?_
  refine E_then ?_
  refine C_seq ?_
  refine C_region ?_
  refine S_newv (fun nb0 => pt nb0 0) [.int .u64 0, .int .u64 0, .int .u64 0, .int .u64 0, .int .u64 0] 30 (by kernel_rfl) (fun w _ => by kernel_rfl) ?_
  intro b4 hb4 Hb4
  refine S_nil ?_
  refine E_then ?_
  refine C_seq ?_
  refine C_seq ?_
  refine C_region ?_
  refine S_v (.int .i64 0) ?_
  refine S_nil ?_
  refine E_then ?_
  refine C_block ?_
  refine C_unroll 5 ?_
  refine R_succ ?_
  refine C_forget (fun g => ⟨#[g 0, g 1, pt b1 0, pt b2 0, pt b3 0, pt b4 0, g 6, g 7, g 8, g 9, g 10, g 11, g 12, .int .i64 0, g 14, g 15, g 16, g 17, g 18, g 19, g 20, g 21, g 22, g 23, g 24, g 25, g 26, g 27, g 28, g 29, g 30, g 31, g 32, g 33, g 34, g 35, g 36, g 37, g 38, g 39, g 40, g 41, g 42, g 43, g 44, g 45, g 46, g 47, g 48, g 49, g 50, g 51, g 52, g 53, g 54, g 55, g 56, g 57, g 58, g 59, g 60, g 61, g 62, g 63, g 64, g 65, g 66, g 67, g 68, g 69, g 70, g 71, g 72, g 73, g 74, g 75, g 76, g 77, g 78, g 79, g 80, g 81, g 82, g 83, g 84, g 85, g 86, g 87, g 88, g 89, g 90, g 91, g 92, g 93, g 94, g 95, g 96, g 97, g 98, g 99, g 100], []⟩) (by kernel_rfl) ?_
  intro g
  refine C_seq ?_
  refine C_region ?_
  refine S_v (.bool true) ?_
  refine S_nil ?_
  refine E_then ?_
  refine C_seq ?_
  refine C_true (by kernel_rfl) ?_
  refine C_skip ?_
  refine E_then ?_
  refine C_seq ?_
  refine C_block ?_
  refine C_seq ?_
  refine C_region ?_
  refine S_v (.int .i64 0) ?_
  refine S_v (.int .i64 0) ?_
  refine S_nil ?_
  refine E_then ?_
  refine C_seq ?_
  refine C_region ?_
  refine S_v (.int .u64 0) ?_
  refine S_v (.int .u64 0) ?_
  refine S_nil ?_
  refine E_then ?_
  refine C_seq ?_
  refine C_seq ?_
  refine C_region ?_
  refine S_v (.int .i64 0) ?_
  refine S_nil ?_
  refine E_then ?_
  refine C_block ?_
  refine C_unroll 5 ?_
  refine R_succ ?_
  refine C_forget (fun g => ⟨#[g 0, g 1, pt b1 0, pt b2 0, pt b3 0, pt b4 0, .int .i64 0, .int .u64 0, g 8, g 9, g 10, g 11, g 12, .int .i64 0, g 14, g 15, .int .i64 0, g 17, g 18, g 19, g 20, g 21, g 22, g 23, g 24, g 25, g 26, g 27, g 28, g 29, g 30, g 31, g 32, g 33, g 34, g 35, g 36, g 37, g 38, g 39, g 40, g 41, g 42, g 43, g 44, g 45, g 46, g 47, g 48, g 49, g 50, g 51, g 52, g 53, g 54, g 55, g 56, g 57, g 58, g 59, g 60, g 61, g 62, g 63, g 64, g 65, g 66, g 67, g 68, g 69, g 70, g 71, g 72, g 73, g 74, g 75, g 76, g 77, g 78, g 79, g 80, g 81, g 82, g 83, g 84, g 85, g 86, g 87, g 88, g 89, g 90, g 91, g 92, g 93, g 94, g 95, g 96, g 97, g 98, g 99, g 100], []⟩) (by kernel_rfl) ?_
  intro g
  refine C_seq ?_
  refine C_region ?_
  refine S_v (.bool true) ?_
  refine S_nil ?_
  refine E_then ?_
  refine C_seq ?_
  refine C_true (by kernel_rfl) ?_
  refine C_skip ?_
  refine E_then ?_
  refine C_seq ?_
  refine C_block ?_
  refine C_seq ?_
  refine C_region ?_
  refine S_v (.int .i64 0) ?_
  refine S_v (.int .i64 0) ?_
  refine S_nil ?_
  refine E_then ?_
  refine C_drawn [.pure, .pure, .pure, .held, .pure, .pure, .held, .pure, .pure, .held, .pure, .held, .pure, .pure, .pure, .pure, .eff, .pure] (by kernel_rfl) (by kernel_rfl) ?_
  refine D_v (.int .i64 0) ?_
  refine D_v (.int .i64 0) ?_
  refine D_v (pt b1 0) ?_
  refine D_held (wd (lb a 0)) (by kernel_rfl) (ld1 3 b1 0 [wd (lb a 0), wd (lb a 1), wd (lb a 2), wd (lb a 3)] 34 rfl (by kernel_rfl) Tryd.isAgg29 (by kernel_rfl) (by kernel_rfl)) ?_
  refine D_v (.int .i64 0) ?_
  refine D_v (pt b2 0) ?_
  refine D_held (wd (lb b 0)) (by kernel_rfl) (ld1 2 b2 0 [wd (lb b 0), wd (lb b 1), wd (lb b 2), wd (lb b 3)] 34 rfl (by kernel_rfl) Tryd.isAgg29 (by kernel_rfl) (by kernel_rfl)) ?_
  refine D_v (.int .i64 0) ?_
  refine D_v (pt b4 0) ?_
  refine D_held (.int .u64 0) (by kernel_rfl) (ld1 0 b4 0 [.int .u64 0, .int .u64 0, .int .u64 0, .int .u64 0, .int .u64 0] 30 rfl (by kernel_rfl) Tryd.isAgg29 (by kernel_rfl) (by kernel_rfl)) ?_
  refine D_v (.int .u64 0) ?_
  obtain ⟨x5, c6, ex5, lx5, lc6, px5⟩ := into_ex (lb a 0) (lb b 0) 0 0 (lb_lt a 0) (lb_lt b 0) (by decide) (by decide)
  refine D_pure (v := .tuple #[wd x5, wd c6]) (by kernel_rfl) px5 (fun _ => by kernel_rfl) ?_
  refine D_v (.tuple #[wd x5, wd c6]) ?_
  refine D_v (wd x5) ?_
  refine D_v (wd c6) ?_
  refine D_v (pt b4 0) ?_
  refine D_do (by kernel_rfl) (st1 (v := wd x5) (L' := [⟨b4, [wd x5, .int .u64 0, .int .u64 0, .int .u64 0, .int .u64 0], 30⟩, ⟨b3, [.int .u64 0, .int .u64 0, .int .u64 0, .int .u64 0], 34⟩, ⟨b2, [wd (lb b 0), wd (lb b 1), wd (lb b 2), wd (lb b 3)], 34⟩, ⟨b1, [wd (lb a 0), wd (lb a 1), wd (lb a 2), wd (lb a 3)], 34⟩]) 0 b4 0 [.int .u64 0, .int .u64 0, .int .u64 0, .int .u64 0, .int .u64 0] 30 rfl (by kernel_rfl) (by kernel_rfl) Tryd.sizeOf29 (by rfl) (by kernel_rfl) (by simp) (by kernel_rfl)) ?_
  refine D_v (wd c6) ?_
  refine D_nil ?_
  refine E_inblock ?_
  refine E_then ?_
  refine C_region ?_
  refine S_v (.int .i64 1) ?_
  refine S_v (.int .i64 1) ?_
  refine S_nil ?_
  refine E_rounds ?_
  refine R_succ ?_
  refine C_forget (fun g => ⟨#[g 0, g 1, pt b1 0, pt b2 0, pt b3 0, pt b4 0, .int .i64 0, wd c6, g 8, g 9, g 10, g 11, g 12, .int .i64 0, g 14, g 15, .int .i64 1, g 17, g 18, g 19, g 20, g 21, g 22, g 23, g 24, g 25, g 26, g 27, g 28, g 29, g 30, g 31, g 32, g 33, g 34, g 35, g 36, g 37, g 38, g 39, g 40, g 41, g 42, g 43, g 44, g 45, g 46, g 47, g 48, g 49, g 50, g 51, g 52, g 53, g 54, g 55, g 56, g 57, g 58, g 59, g 60, g 61, g 62, g 63, g 64, g 65, g 66, g 67, g 68, g 69, g 70, g 71, g 72, g 73, g 74, g 75, g 76, g 77, g 78, g 79, g 80, g 81, g 82, g 83, g 84, g 85, g 86, g 87, g 88, g 89, g 90, g 91, g 92, g 93, g 94, g 95, g 96, g 97, g 98, g 99, g 100], []⟩) (by kernel_rfl) ?_
  intro g
  refine C_seq ?_
  refine C_region ?_
  refine S_v (.bool true) ?_
  refine S_nil ?_
  refine E_then ?_
  refine C_seq ?_
  refine C_true (by kernel_rfl) ?_
  refine C_skip ?_
  refine E_then ?_
  refine C_seq ?_
  refine C_block ?_
  refine C_seq ?_
  refine C_region ?_
  refine S_v (.int .i64 1) ?_
  refine S_v (.int .i64 1) ?_
  refine S_nil ?_
  refine E_then ?_
  refine C_drawn [.pure, .pure, .pure, .held, .pure, .pure, .held, .pure, .pure, .held, .pure, .held, .pure, .pure, .pure, .pure, .eff, .pure] (by kernel_rfl) (by kernel_rfl) ?_
  refine D_v (.int .i64 1) ?_
  refine D_v (.int .i64 1) ?_
  refine D_v (pt b1 1) ?_
  refine D_held (wd (lb a 1)) (by kernel_rfl) (ld1 3 b1 1 [wd (lb a 0), wd (lb a 1), wd (lb a 2), wd (lb a 3)] 34 rfl (by kernel_rfl) Tryd.isAgg29 (by kernel_rfl) (by kernel_rfl)) ?_
  refine D_v (.int .i64 0) ?_
  refine D_v (pt b2 0) ?_
  refine D_held (wd (lb b 0)) (by kernel_rfl) (ld1 2 b2 0 [wd (lb b 0), wd (lb b 1), wd (lb b 2), wd (lb b 3)] 34 rfl (by kernel_rfl) Tryd.isAgg29 (by kernel_rfl) (by kernel_rfl)) ?_
  refine D_v (.int .i64 1) ?_
  refine D_v (pt b4 1) ?_
  refine D_held (.int .u64 0) (by kernel_rfl) (ld1 0 b4 1 [wd x5, .int .u64 0, .int .u64 0, .int .u64 0, .int .u64 0] 30 rfl (by kernel_rfl) Tryd.isAgg29 (by kernel_rfl) (by kernel_rfl)) ?_
  refine D_v (wd c6) ?_
  obtain ⟨x7, c8, ex7, lx7, lc8, px7⟩ := into_ex (lb a 1) (lb b 0) 0 c6 (lb_lt a 1) (lb_lt b 0) (by decide) lc6
  refine D_pure (v := .tuple #[wd x7, wd c8]) (by kernel_rfl) px7 (fun _ => by kernel_rfl) ?_
  refine D_v (.tuple #[wd x7, wd c8]) ?_
  refine D_v (wd x7) ?_
  refine D_v (wd c8) ?_
  refine D_v (pt b4 1) ?_
  refine D_do (by kernel_rfl) (st1 (v := wd x7) (L' := [⟨b4, [wd x5, wd x7, .int .u64 0, .int .u64 0, .int .u64 0], 30⟩, ⟨b3, [.int .u64 0, .int .u64 0, .int .u64 0, .int .u64 0], 34⟩, ⟨b2, [wd (lb b 0), wd (lb b 1), wd (lb b 2), wd (lb b 3)], 34⟩, ⟨b1, [wd (lb a 0), wd (lb a 1), wd (lb a 2), wd (lb a 3)], 34⟩]) 0 b4 1 [wd x5, .int .u64 0, .int .u64 0, .int .u64 0, .int .u64 0] 30 rfl (by kernel_rfl) (by kernel_rfl) Tryd.sizeOf29 (by rfl) (by kernel_rfl) (by simp) (by kernel_rfl)) ?_
  refine D_v (wd c8) ?_
  refine D_nil ?_
  refine E_inblock ?_
  refine E_then ?_
  refine C_region ?_
  refine S_v (.int .i64 2) ?_
  refine S_v (.int .i64 2) ?_
  refine S_nil ?_
  refine E_rounds ?_
  refine R_succ ?_
  refine C_forget (fun g => ⟨#[g 0, g 1, pt b1 0, pt b2 0, pt b3 0, pt b4 0, .int .i64 0, wd c8, g 8, g 9, g 10, g 11, g 12, .int .i64 0, g 14, g 15, .int .i64 2, g 17, g 18, g 19, g 20, g 21, g 22, g 23, g 24, g 25, g 26, g 27, g 28, g 29, g 30, g 31, g 32, g 33, g 34, g 35, g 36, g 37, g 38, g 39, g 40, g 41, g 42, g 43, g 44, g 45, g 46, g 47, g 48, g 49, g 50, g 51, g 52, g 53, g 54, g 55, g 56, g 57, g 58, g 59, g 60, g 61, g 62, g 63, g 64, g 65, g 66, g 67, g 68, g 69, g 70, g 71, g 72, g 73, g 74, g 75, g 76, g 77, g 78, g 79, g 80, g 81, g 82, g 83, g 84, g 85, g 86, g 87, g 88, g 89, g 90, g 91, g 92, g 93, g 94, g 95, g 96, g 97, g 98, g 99, g 100], []⟩) (by kernel_rfl) ?_
  intro g
  refine C_seq ?_
  refine C_region ?_
  refine S_v (.bool true) ?_
  refine S_nil ?_
  refine E_then ?_
  refine C_seq ?_
  refine C_true (by kernel_rfl) ?_
  refine C_skip ?_
  refine E_then ?_
  refine C_seq ?_
  refine C_block ?_
  refine C_seq ?_
  refine C_region ?_
  refine S_v (.int .i64 2) ?_
  refine S_v (.int .i64 2) ?_
  refine S_nil ?_
  refine E_then ?_
  refine C_drawn [.pure, .pure, .pure, .held, .pure, .pure, .held, .pure, .pure, .held, .pure, .held, .pure, .pure, .pure, .pure, .eff, .pure] (by kernel_rfl) (by kernel_rfl) ?_
  refine D_v (.int .i64 2) ?_
  refine D_v (.int .i64 2) ?_
  refine D_v (pt b1 2) ?_
  refine D_held (wd (lb a 2)) (by kernel_rfl) (ld1 3 b1 2 [wd (lb a 0), wd (lb a 1), wd (lb a 2), wd (lb a 3)] 34 rfl (by kernel_rfl) Tryd.isAgg29 (by kernel_rfl) (by kernel_rfl)) ?_
  refine D_v (.int .i64 0) ?_
  refine D_v (pt b2 0) ?_
  refine D_held (wd (lb b 0)) (by kernel_rfl) (ld1 2 b2 0 [wd (lb b 0), wd (lb b 1), wd (lb b 2), wd (lb b 3)] 34 rfl (by kernel_rfl) Tryd.isAgg29 (by kernel_rfl) (by kernel_rfl)) ?_
  refine D_v (.int .i64 2) ?_
  refine D_v (pt b4 2) ?_
  refine D_held (.int .u64 0) (by kernel_rfl) (ld1 0 b4 2 [wd x5, wd x7, .int .u64 0, .int .u64 0, .int .u64 0] 30 rfl (by kernel_rfl) Tryd.isAgg29 (by kernel_rfl) (by kernel_rfl)) ?_
  refine D_v (wd c8) ?_
  obtain ⟨x9, c10, ex9, lx9, lc10, px9⟩ := into_ex (lb a 2) (lb b 0) 0 c8 (lb_lt a 2) (lb_lt b 0) (by decide) lc8
  refine D_pure (v := .tuple #[wd x9, wd c10]) (by kernel_rfl) px9 (fun _ => by kernel_rfl) ?_
  refine D_v (.tuple #[wd x9, wd c10]) ?_
  refine D_v (wd x9) ?_
  refine D_v (wd c10) ?_
  refine D_v (pt b4 2) ?_
  refine D_do (by kernel_rfl) (st1 (v := wd x9) (L' := [⟨b4, [wd x5, wd x7, wd x9, .int .u64 0, .int .u64 0], 30⟩, ⟨b3, [.int .u64 0, .int .u64 0, .int .u64 0, .int .u64 0], 34⟩, ⟨b2, [wd (lb b 0), wd (lb b 1), wd (lb b 2), wd (lb b 3)], 34⟩, ⟨b1, [wd (lb a 0), wd (lb a 1), wd (lb a 2), wd (lb a 3)], 34⟩]) 0 b4 2 [wd x5, wd x7, .int .u64 0, .int .u64 0, .int .u64 0] 30 rfl (by kernel_rfl) (by kernel_rfl) Tryd.sizeOf29 (by rfl) (by kernel_rfl) (by simp) (by kernel_rfl)) ?_
  refine D_v (wd c10) ?_
  refine D_nil ?_
  refine E_inblock ?_
  refine E_then ?_
  refine C_region ?_
  refine S_v (.int .i64 3) ?_
  refine S_v (.int .i64 3) ?_
  refine S_nil ?_
  refine E_rounds ?_
  refine R_succ ?_
  refine C_forget (fun g => ⟨#[g 0, g 1, pt b1 0, pt b2 0, pt b3 0, pt b4 0, .int .i64 0, wd c10, g 8, g 9, g 10, g 11, g 12, .int .i64 0, g 14, g 15, .int .i64 3, g 17, g 18, g 19, g 20, g 21, g 22, g 23, g 24, g 25, g 26, g 27, g 28, g 29, g 30, g 31, g 32, g 33, g 34, g 35, g 36, g 37, g 38, g 39, g 40, g 41, g 42, g 43, g 44, g 45, g 46, g 47, g 48, g 49, g 50, g 51, g 52, g 53, g 54, g 55, g 56, g 57, g 58, g 59, g 60, g 61, g 62, g 63, g 64, g 65, g 66, g 67, g 68, g 69, g 70, g 71, g 72, g 73, g 74, g 75, g 76, g 77, g 78, g 79, g 80, g 81, g 82, g 83, g 84, g 85, g 86, g 87, g 88, g 89, g 90, g 91, g 92, g 93, g 94, g 95, g 96, g 97, g 98, g 99, g 100], []⟩) (by kernel_rfl) ?_
  intro g
  refine C_seq ?_
  refine C_region ?_
  refine S_v (.bool true) ?_
  refine S_nil ?_
  refine E_then ?_
  refine C_seq ?_
  refine C_true (by kernel_rfl) ?_
  refine C_skip ?_
  refine E_then ?_
  refine C_seq ?_
  refine C_block ?_
  refine C_seq ?_
  refine C_region ?_
  refine S_v (.int .i64 3) ?_
  refine S_v (.int .i64 3) ?_
  refine S_nil ?_
  refine E_then ?_
  refine C_drawn [.pure, .pure, .pure, .held, .pure, .pure, .held, .pure, .pure, .held, .pure, .held, .pure, .pure, .pure, .pure, .eff, .pure] (by kernel_rfl) (by kernel_rfl) ?_
  refine D_v (.int .i64 3) ?_
  refine D_v (.int .i64 3) ?_
  refine D_v (pt b1 3) ?_
  refine D_held (wd (lb a 3)) (by kernel_rfl) (ld1 3 b1 3 [wd (lb a 0), wd (lb a 1), wd (lb a 2), wd (lb a 3)] 34 rfl (by kernel_rfl) Tryd.isAgg29 (by kernel_rfl) (by kernel_rfl)) ?_
  refine D_v (.int .i64 0) ?_
  refine D_v (pt b2 0) ?_
  refine D_held (wd (lb b 0)) (by kernel_rfl) (ld1 2 b2 0 [wd (lb b 0), wd (lb b 1), wd (lb b 2), wd (lb b 3)] 34 rfl (by kernel_rfl) Tryd.isAgg29 (by kernel_rfl) (by kernel_rfl)) ?_
  refine D_v (.int .i64 3) ?_
  refine D_v (pt b4 3) ?_
  refine D_held (.int .u64 0) (by kernel_rfl) (ld1 0 b4 3 [wd x5, wd x7, wd x9, .int .u64 0, .int .u64 0] 30 rfl (by kernel_rfl) Tryd.isAgg29 (by kernel_rfl) (by kernel_rfl)) ?_
  refine D_v (wd c10) ?_
  obtain ⟨x11, c12, ex11, lx11, lc12, px11⟩ := into_ex (lb a 3) (lb b 0) 0 c10 (lb_lt a 3) (lb_lt b 0) (by decide) lc10
  refine D_pure (v := .tuple #[wd x11, wd c12]) (by kernel_rfl) px11 (fun _ => by kernel_rfl) ?_
  refine D_v (.tuple #[wd x11, wd c12]) ?_
  refine D_v (wd x11) ?_
  refine D_v (wd c12) ?_
  refine D_v (pt b4 3) ?_
  refine D_do (by kernel_rfl) (st1 (v := wd x11) (L' := [⟨b4, [wd x5, wd x7, wd x9, wd x11, .int .u64 0], 30⟩, ⟨b3, [.int .u64 0, .int .u64 0, .int .u64 0, .int .u64 0], 34⟩, ⟨b2, [wd (lb b 0), wd (lb b 1), wd (lb b 2), wd (lb b 3)], 34⟩, ⟨b1, [wd (lb a 0), wd (lb a 1), wd (lb a 2), wd (lb a 3)], 34⟩]) 0 b4 3 [wd x5, wd x7, wd x9, .int .u64 0, .int .u64 0] 30 rfl (by kernel_rfl) (by kernel_rfl) Tryd.sizeOf29 (by rfl) (by kernel_rfl) (by simp) (by kernel_rfl)) ?_
  refine D_v (wd c12) ?_
  refine D_nil ?_
  refine E_inblock ?_
  refine E_then ?_
  refine C_region ?_
  refine S_v (.int .i64 4) ?_
  refine S_v (.int .i64 4) ?_
  refine S_nil ?_
  refine E_rounds ?_
  refine R_succ ?_
  refine C_forget (fun g => ⟨#[g 0, g 1, pt b1 0, pt b2 0, pt b3 0, pt b4 0, .int .i64 0, wd c12, g 8, g 9, g 10, g 11, g 12, .int .i64 0, g 14, g 15, .int .i64 4, g 17, g 18, g 19, g 20, g 21, g 22, g 23, g 24, g 25, g 26, g 27, g 28, g 29, g 30, g 31, g 32, g 33, g 34, g 35, g 36, g 37, g 38, g 39, g 40, g 41, g 42, g 43, g 44, g 45, g 46, g 47, g 48, g 49, g 50, g 51, g 52, g 53, g 54, g 55, g 56, g 57, g 58, g 59, g 60, g 61, g 62, g 63, g 64, g 65, g 66, g 67, g 68, g 69, g 70, g 71, g 72, g 73, g 74, g 75, g 76, g 77, g 78, g 79, g 80, g 81, g 82, g 83, g 84, g 85, g 86, g 87, g 88, g 89, g 90, g 91, g 92, g 93, g 94, g 95, g 96, g 97, g 98, g 99, g 100], []⟩) (by kernel_rfl) ?_
  intro g
  refine C_seq ?_
  refine C_region ?_
  refine S_v (.bool false) ?_
  refine S_nil ?_
  refine E_then ?_
  refine C_seq ?_
  refine C_false (by kernel_rfl) ?_
  refine C_exit ?_
  refine E_pass_exit ?_
  refine E_pass_exit ?_
  refine E_outblock ?_
  refine E_then ?_
  refine C_seq ?_
  refine C_region ?_
  refine S_v (pt b4 4) ?_
  refine S_val (.int .u64 0) (by kernel_rfl) (ld1 0 b4 4 [wd x5, wd x7, wd x9, wd x11, .int .u64 0] 30 rfl (by kernel_rfl) Tryd.isAgg29 (by kernel_rfl) (by kernel_rfl)) ?_
  refine S_v (wd c12) ?_
  obtain ⟨x13, k14, ex13, lx13, ok14, hx13, hk14⟩ := addc_ex 0 c12 0 (by decide) lc12 (by decide)
  refine S_val (.tuple #[wd x13, wd k14]) (by kernel_rfl) (fun w _ => fv (v := .tuple #[wd ((0 + c12 + 0) % 18446744073709551616), wd ((0 + c12 + 0) / 18446744073709551616)]) (by rw [hx13, hk14]) ((clv (x := .func 52) rfl (by kernel_rfl) (by kernel_rfl) (by kernel_rfl) (x_add 0 c12 0 (by decide))) w)) ?_
  refine S_v (.tuple #[wd x13, wd k14]) ?_
  refine S_v (wd x13) ?_
  refine S_v (wd k14) ?_
  refine S_v (pt b4 4) ?_
  refine S_do (by kernel_rfl) (st1 (v := wd x13) (L' := [⟨b4, [wd x5, wd x7, wd x9, wd x11, wd x13], 30⟩, ⟨b3, [.int .u64 0, .int .u64 0, .int .u64 0, .int .u64 0], 34⟩, ⟨b2, [wd (lb b 0), wd (lb b 1), wd (lb b 2), wd (lb b 3)], 34⟩, ⟨b1, [wd (lb a 0), wd (lb a 1), wd (lb a 2), wd (lb a 3)], 34⟩]) 0 b4 4 [wd x5, wd x7, wd x9, wd x11, .int .u64 0] 30 rfl (by kernel_rfl) (by kernel_rfl) Tryd.sizeOf29 (by rfl) (by kernel_rfl) (by simp) (by kernel_rfl)) ?_
  refine S_v (wd k14) ?_
  refine S_nil ?_
  refine E_then ?_
  refine C_seq ?_
  refine C_region ?_
  refine S_v (wd k14) ?_
  refine S_v (wd k14) ?_
  refine S_nil ?_
  refine E_then ?_
  refine C_seq ?_
  refine C_region ?_
  refine S_v (pt b4 0) ?_
  refine S_val (wd x5) (by kernel_rfl) (ld1 0 b4 0 [wd x5, wd x7, wd x9, wd x11, wd x13] 30 rfl (by kernel_rfl) Tryd.isAgg29 (by kernel_rfl) (by kernel_rfl)) ?_
  obtain ⟨x15, hx15, lx15⟩ : ∃ q, q = (x5 * 15183074304973897243) % 18446744073709551616 ∧ q < 18446744073709551616 := ⟨_, rfl, Nat.mod_lt _ (by decide)⟩
  refine S_val (wd x15) (by kernel_rfl) (fun _ _ => fv (v := .int .u64 (IntKind.u64.wrap (((x5 : Nat) : Int) * 15183074304973897243))) ((vint (hx15 ▸ u_mul x5 15183074304973897243))) (by kernel_rfl)) ?_
  refine S_v (wd x15) ?_
  refine S_nil ?_
  refine E_then ?_
  refine C_seq ?_
  refine C_region ?_
  refine S_v (wd x15) ?_
  refine S_v (pt 0 0) ?_
  refine S_v (pt 0 0) ?_
  refine S_val (.int .u64 6346243789798364141) (by kernel_rfl) (ld1o (v := .int .u64 6346243789798364141) 0 0 rfl (by kernel_rfl) Tryd.isAgg29 (hT.at 0 (by kernel_rfl))) ?_
  refine S_v (pt b4 0) ?_
  refine S_val (wd x5) (by kernel_rfl) (ld1 0 b4 0 [wd x5, wd x7, wd x9, wd x11, wd x13] 30 rfl (by kernel_rfl) Tryd.isAgg29 (by kernel_rfl) (by kernel_rfl)) ?_
  obtain ⟨x16, c17, ex16, lx16, lc17, px16⟩ := into_ex x15 6346243789798364141 x5 0 lx15 (by decide) lx5 (by decide)
  refine S_pure (v := .tuple #[wd x16, wd c17]) (by kernel_rfl) px16 (fun _ => by kernel_rfl) ?_
  refine S_v (.tuple #[wd x16, wd c17]) ?_
  refine S_v (wd x16) ?_
  refine S_v (wd c17) ?_
  refine S_v (wd c17) ?_
  refine S_nil ?_
  refine E_then ?_
  refine C_seq ?_
  refine C_seq ?_
  refine C_region ?_
  refine S_v (.int .i64 1) ?_
  refine S_nil ?_
  refine E_then ?_
  refine C_block ?_
  refine C_unroll 4 ?_
  refine R_succ ?_
  refine C_forget (fun g => ⟨#[g 0, g 1, pt b1 0, pt b2 0, pt b3 0, pt b4 0, g 6, wd c17, g 8, g 9, wd k14, wd x15, .int .i64 1, .int .i64 0, g 14, g 15, g 16, g 17, g 18, g 19, g 20, g 21, g 22, g 23, g 24, g 25, g 26, g 27, g 28, g 29, g 30, g 31, g 32, g 33, g 34, g 35, g 36, g 37, g 38, g 39, g 40, g 41, g 42, g 43, g 44, g 45, g 46, g 47, g 48, g 49, g 50, g 51, g 52, g 53, g 54, g 55, g 56, g 57, g 58, g 59, g 60, g 61, g 62, g 63, g 64, g 65, g 66, g 67, g 68, g 69, g 70, g 71, g 72, g 73, g 74, g 75, g 76, g 77, g 78, g 79, g 80, g 81, g 82, g 83, g 84, g 85, g 86, g 87, g 88, g 89, g 90, g 91, g 92, g 93, g 94, g 95, g 96, g 97, g 98, g 99, g 100], []⟩) (by kernel_rfl) ?_
  intro g
  refine C_seq ?_
  refine C_seq ?_
  refine C_region ?_
  refine S_v (.int .i64 1) ?_
  refine S_v (.bool true) ?_
  refine S_nil ?_
  refine E_then ?_
  refine C_true (by kernel_rfl) ?_
  refine C_skip ?_
  refine E_then ?_
  refine C_seq ?_
  refine C_block ?_
  refine C_drawn [.pure, .pure, .pure, .pure, .pure, .pure, .held, .pure, .pure, .held, .pure, .held, .pure, .pure, .pure, .pure, .eff, .pure] (by kernel_rfl) (by kernel_rfl) ?_
  refine D_v (.int .i64 1) ?_
  refine D_v (.int .i64 0) ?_
  refine D_v (wd x15) ?_
  refine D_v (.int .i64 1) ?_
  refine D_v (pt 0 0) ?_
  refine D_v (pt 0 1) ?_
  refine D_held (.int .u64 1503914060200516822) (by kernel_rfl) (ld1o (v := .int .u64 1503914060200516822) 0 1 rfl (by kernel_rfl) Tryd.isAgg29 (hT.at 1 (by kernel_rfl))) ?_
  refine D_v (.int .i64 1) ?_
  refine D_v (pt b4 1) ?_
  refine D_held (wd x7) (by kernel_rfl) (ld1 0 b4 1 [wd x5, wd x7, wd x9, wd x11, wd x13] 30 rfl (by kernel_rfl) Tryd.isAgg29 (by kernel_rfl) (by kernel_rfl)) ?_
  refine D_v (wd c17) ?_
  obtain ⟨x18, c19, ex18, lx18, lc19, px18⟩ := into_ex x15 1503914060200516822 x7 c17 lx15 (by decide) lx7 lc17
  refine D_pure (v := .tuple #[wd x18, wd c19]) (by kernel_rfl) px18 (fun _ => by kernel_rfl) ?_
  refine D_v (.tuple #[wd x18, wd c19]) ?_
  refine D_v (wd x18) ?_
  refine D_v (wd c19) ?_
  refine D_v (pt b4 0) ?_
  refine D_do (by kernel_rfl) (st1 (v := wd x18) (L' := [⟨b4, [wd x18, wd x7, wd x9, wd x11, wd x13], 30⟩, ⟨b3, [.int .u64 0, .int .u64 0, .int .u64 0, .int .u64 0], 34⟩, ⟨b2, [wd (lb b 0), wd (lb b 1), wd (lb b 2), wd (lb b 3)], 34⟩, ⟨b1, [wd (lb a 0), wd (lb a 1), wd (lb a 2), wd (lb a 3)], 34⟩]) 0 b4 0 [wd x5, wd x7, wd x9, wd x11, wd x13] 30 rfl (by kernel_rfl) (by kernel_rfl) Tryd.sizeOf29 (by rfl) (by kernel_rfl) (by simp) (by kernel_rfl)) ?_
  refine D_v (wd c19) ?_
  refine D_nil ?_
  refine E_inblock ?_
  refine E_then ?_
  refine C_region ?_
  refine S_v (.int .i64 1) ?_
  refine S_v (.int .i64 2) ?_
  refine S_v (.int .i64 2) ?_
  refine S_nil ?_
  refine E_rounds ?_
  refine R_succ ?_
  refine C_forget (fun g => ⟨#[g 0, g 1, pt b1 0, pt b2 0, pt b3 0, pt b4 0, g 6, wd c19, g 8, g 9, wd k14, wd x15, .int .i64 2, .int .i64 0, g 14, g 15, g 16, g 17, g 18, g 19, g 20, g 21, g 22, g 23, g 24, g 25, g 26, g 27, g 28, g 29, g 30, g 31, g 32, g 33, g 34, g 35, g 36, g 37, g 38, g 39, g 40, g 41, g 42, g 43, g 44, g 45, g 46, g 47, g 48, g 49, g 50, g 51, g 52, g 53, g 54, g 55, g 56, g 57, g 58, g 59, g 60, g 61, g 62, g 63, g 64, g 65, g 66, g 67, g 68, g 69, g 70, g 71, g 72, g 73, g 74, g 75, g 76, g 77, g 78, g 79, g 80, g 81, g 82, g 83, g 84, g 85, g 86, g 87, g 88, g 89, g 90, g 91, g 92, g 93, g 94, g 95, g 96, g 97, g 98, g 99, g 100], []⟩) (by kernel_rfl) ?_
  intro g
  refine C_seq ?_
  refine C_seq ?_
  refine C_region ?_
  refine S_v (.int .i64 2) ?_
  refine S_v (.bool true) ?_
  refine S_nil ?_
  refine E_then ?_
  refine C_true (by kernel_rfl) ?_
  refine C_skip ?_
  refine E_then ?_
  refine C_seq ?_
  refine C_block ?_
  refine C_drawn [.pure, .pure, .pure, .pure, .pure, .pure, .held, .pure, .pure, .held, .pure, .held, .pure, .pure, .pure, .pure, .eff, .pure] (by kernel_rfl) (by kernel_rfl) ?_
  refine D_v (.int .i64 2) ?_
  refine D_v (.int .i64 1) ?_
  refine D_v (wd x15) ?_
  refine D_v (.int .i64 2) ?_
  refine D_v (pt 0 0) ?_
  refine D_v (pt 0 2) ?_
  refine D_held (.int .u64 0) (by kernel_rfl) (ld1o (v := .int .u64 0) 0 2 rfl (by kernel_rfl) Tryd.isAgg29 (hT.at 2 (by kernel_rfl))) ?_
  refine D_v (.int .i64 2) ?_
  refine D_v (pt b4 2) ?_
  refine D_held (wd x9) (by kernel_rfl) (ld1 0 b4 2 [wd x18, wd x7, wd x9, wd x11, wd x13] 30 rfl (by kernel_rfl) Tryd.isAgg29 (by kernel_rfl) (by kernel_rfl)) ?_
  refine D_v (wd c19) ?_
  obtain ⟨x20, c21, ex20, lx20, lc21, px20⟩ := into_ex x15 0 x9 c19 lx15 (by decide) lx9 lc19
  refine D_pure (v := .tuple #[wd x20, wd c21]) (by kernel_rfl) px20 (fun _ => by kernel_rfl) ?_
  refine D_v (.tuple #[wd x20, wd c21]) ?_
  refine D_v (wd x20) ?_
  refine D_v (wd c21) ?_
  refine D_v (pt b4 1) ?_
  refine D_do (by kernel_rfl) (st1 (v := wd x20) (L' := [⟨b4, [wd x18, wd x20, wd x9, wd x11, wd x13], 30⟩, ⟨b3, [.int .u64 0, .int .u64 0, .int .u64 0, .int .u64 0], 34⟩, ⟨b2, [wd (lb b 0), wd (lb b 1), wd (lb b 2), wd (lb b 3)], 34⟩, ⟨b1, [wd (lb a 0), wd (lb a 1), wd (lb a 2), wd (lb a 3)], 34⟩]) 0 b4 1 [wd x18, wd x7, wd x9, wd x11, wd x13] 30 rfl (by kernel_rfl) (by kernel_rfl) Tryd.sizeOf29 (by rfl) (by kernel_rfl) (by simp) (by kernel_rfl)) ?_
  refine D_v (wd c21) ?_
  refine D_nil ?_
  refine E_inblock ?_
  refine E_then ?_
  refine C_region ?_
  refine S_v (.int .i64 2) ?_
  refine S_v (.int .i64 3) ?_
  refine S_v (.int .i64 3) ?_
  refine S_nil ?_
  refine E_rounds ?_
  refine R_succ ?_
  refine C_forget (fun g => ⟨#[g 0, g 1, pt b1 0, pt b2 0, pt b3 0, pt b4 0, g 6, wd c21, g 8, g 9, wd k14, wd x15, .int .i64 3, .int .i64 0, g 14, g 15, g 16, g 17, g 18, g 19, g 20, g 21, g 22, g 23, g 24, g 25, g 26, g 27, g 28, g 29, g 30, g 31, g 32, g 33, g 34, g 35, g 36, g 37, g 38, g 39, g 40, g 41, g 42, g 43, g 44, g 45, g 46, g 47, g 48, g 49, g 50, g 51, g 52, g 53, g 54, g 55, g 56, g 57, g 58, g 59, g 60, g 61, g 62, g 63, g 64, g 65, g 66, g 67, g 68, g 69, g 70, g 71, g 72, g 73, g 74, g 75, g 76, g 77, g 78, g 79, g 80, g 81, g 82, g 83, g 84, g 85, g 86, g 87, g 88, g 89, g 90, g 91, g 92, g 93, g 94, g 95, g 96, g 97, g 98, g 99, g 100], []⟩) (by kernel_rfl) ?_
  intro g
  refine C_seq ?_
  refine C_seq ?_
  refine C_region ?_
  refine S_v (.int .i64 3) ?_
  refine S_v (.bool true) ?_
  refine S_nil ?_
  refine E_then ?_
  refine C_true (by kernel_rfl) ?_
  refine C_skip ?_
  refine E_then ?_
  refine C_seq ?_
  refine C_block ?_
  refine C_drawn [.pure, .pure, .pure, .pure, .pure, .pure, .held, .pure, .pure, .held, .pure, .held, .pure, .pure, .pure, .pure, .eff, .pure] (by kernel_rfl) (by kernel_rfl) ?_
  refine D_v (.int .i64 3) ?_
  refine D_v (.int .i64 2) ?_
  refine D_v (wd x15) ?_
  refine D_v (.int .i64 3) ?_
  refine D_v (pt 0 0) ?_
  refine D_v (pt 0 3) ?_
  refine D_held (.int .u64 1152921504606846976) (by kernel_rfl) (ld1o (v := .int .u64 1152921504606846976) 0 3 rfl (by kernel_rfl) Tryd.isAgg29 (hT.at 3 (by kernel_rfl))) ?_
  refine D_v (.int .i64 3) ?_
  refine D_v (pt b4 3) ?_
  refine D_held (wd x11) (by kernel_rfl) (ld1 0 b4 3 [wd x18, wd x20, wd x9, wd x11, wd x13] 30 rfl (by kernel_rfl) Tryd.isAgg29 (by kernel_rfl) (by kernel_rfl)) ?_
  refine D_v (wd c21) ?_
  obtain ⟨x22, c23, ex22, lx22, lc23, px22⟩ := into_ex x15 1152921504606846976 x11 c21 lx15 (by decide) lx11 lc21
  refine D_pure (v := .tuple #[wd x22, wd c23]) (by kernel_rfl) px22 (fun _ => by kernel_rfl) ?_
  refine D_v (.tuple #[wd x22, wd c23]) ?_
  refine D_v (wd x22) ?_
  refine D_v (wd c23) ?_
  refine D_v (pt b4 2) ?_
  refine D_do (by kernel_rfl) (st1 (v := wd x22) (L' := [⟨b4, [wd x18, wd x20, wd x22, wd x11, wd x13], 30⟩, ⟨b3, [.int .u64 0, .int .u64 0, .int .u64 0, .int .u64 0], 34⟩, ⟨b2, [wd (lb b 0), wd (lb b 1), wd (lb b 2), wd (lb b 3)], 34⟩, ⟨b1, [wd (lb a 0), wd (lb a 1), wd (lb a 2), wd (lb a 3)], 34⟩]) 0 b4 2 [wd x18, wd x20, wd x9, wd x11, wd x13] 30 rfl (by kernel_rfl) (by kernel_rfl) Tryd.sizeOf29 (by rfl) (by kernel_rfl) (by simp) (by kernel_rfl)) ?_
  refine D_v (wd c23) ?_
  refine D_nil ?_
  refine E_inblock ?_
  refine E_then ?_
  refine C_region ?_
  refine S_v (.int .i64 3) ?_
  refine S_v (.int .i64 4) ?_
  refine S_v (.int .i64 4) ?_
  refine S_nil ?_
  refine E_rounds ?_
  refine R_succ ?_
  refine C_forget (fun g => ⟨#[g 0, g 1, pt b1 0, pt b2 0, pt b3 0, pt b4 0, g 6, wd c23, g 8, g 9, wd k14, wd x15, .int .i64 4, .int .i64 0, g 14, g 15, g 16, g 17, g 18, g 19, g 20, g 21, g 22, g 23, g 24, g 25, g 26, g 27, g 28, g 29, g 30, g 31, g 32, g 33, g 34, g 35, g 36, g 37, g 38, g 39, g 40, g 41, g 42, g 43, g 44, g 45, g 46, g 47, g 48, g 49, g 50, g 51, g 52, g 53, g 54, g 55, g 56, g 57, g 58, g 59, g 60, g 61, g 62, g 63, g 64, g 65, g 66, g 67, g 68, g 69, g 70, g 71, g 72, g 73, g 74, g 75, g 76, g 77, g 78, g 79, g 80, g 81, g 82, g 83, g 84, g 85, g 86, g 87, g 88, g 89, g 90, g 91, g 92, g 93, g 94, g 95, g 96, g 97, g 98, g 99, g 100], []⟩) (by kernel_rfl) ?_
  intro g
  refine C_seq ?_
  refine C_seq ?_
  refine C_region ?_
  refine S_v (.int .i64 4) ?_
  refine S_v (.bool false) ?_
  refine S_nil ?_
  refine E_then ?_
  refine C_false (by kernel_rfl) ?_
  refine C_exit ?_
  refine E_pass_exit ?_
  refine E_pass_exit ?_
  refine E_outblock ?_
  refine E_then ?_
  refine C_seq ?_
  refine C_region ?_
  refine S_v (pt b4 4) ?_
  refine S_val (wd x13) (by kernel_rfl) (ld1 0 b4 4 [wd x18, wd x20, wd x22, wd x11, wd x13] 30 rfl (by kernel_rfl) Tryd.isAgg29 (by kernel_rfl) (by kernel_rfl)) ?_
  refine S_v (wd c23) ?_
  obtain ⟨x24, k25, ex24, lx24, ok25, hx24, hk25⟩ := addc_ex x13 c23 0 lx13 lc23 (by decide)
  refine S_val (.tuple #[wd x24, wd k25]) (by kernel_rfl) (fun w _ => fv (v := .tuple #[wd ((x13 + c23 + 0) % 18446744073709551616), wd ((x13 + c23 + 0) / 18446744073709551616)]) (by rw [hx24, hk25]) ((clv (x := .func 52) rfl (by kernel_rfl) (by kernel_rfl) (by kernel_rfl) (x_add x13 c23 0 (by decide))) w)) ?_
  refine S_v (.tuple #[wd x24, wd k25]) ?_
  refine S_v (wd x24) ?_
  refine S_v (wd k25) ?_
  refine S_v (pt b4 3) ?_
  refine S_do (by kernel_rfl) (st1 (v := wd x24) (L' := [⟨b4, [wd x18, wd x20, wd x22, wd x24, wd x13], 30⟩, ⟨b3, [.int .u64 0, .int .u64 0, .int .u64 0, .int .u64 0], 34⟩, ⟨b2, [wd (lb b 0), wd (lb b 1), wd (lb b 2), wd (lb b 3)], 34⟩, ⟨b1, [wd (lb a 0), wd (lb a 1), wd (lb a 2), wd (lb a 3)], 34⟩]) 0 b4 3 [wd x18, wd x20, wd x22, wd x11, wd x13] 30 rfl (by kernel_rfl) (by kernel_rfl) Tryd.sizeOf29 (by rfl) (by kernel_rfl) (by simp) (by kernel_rfl)) ?_
  refine S_v (wd k25) ?_
  refine S_nil ?_
  refine E_then ?_
  refine C_region ?_
  refine S_v (wd k14) ?_
  refine S_v (wd k25) ?_
  obtain ⟨x26, hx26, lx26⟩ : ∃ q, q = (k14 + k25) % 18446744073709551616 ∧ q < 18446744073709551616 := ⟨_, rfl, Nat.mod_lt _ (by decide)⟩
  refine S_val (wd x26) (by kernel_rfl) (fun _ _ => fv (v := .int .u64 (IntKind.u64.wrap (((k14 : Nat) : Int) + ((k25 : Nat) : Int)))) ((vint (hx26 ▸ u_add k14 k25))) (by kernel_rfl)) ?_
  refine S_v (pt b4 4) ?_
  refine S_do (by kernel_rfl) (st1 (v := wd x26) (L' := [⟨b4, [wd x18, wd x20, wd x22, wd x24, wd x26], 30⟩, ⟨b3, [.int .u64 0, .int .u64 0, .int .u64 0, .int .u64 0], 34⟩, ⟨b2, [wd (lb b 0), wd (lb b 1), wd (lb b 2), wd (lb b 3)], 34⟩, ⟨b1, [wd (lb a 0), wd (lb a 1), wd (lb a 2), wd (lb a 3)], 34⟩]) 0 b4 4 [wd x18, wd x20, wd x22, wd x24, wd x13] 30 rfl (by kernel_rfl) (by kernel_rfl) Tryd.sizeOf29 (by rfl) (by kernel_rfl) (by simp) (by kernel_rfl)) ?_
  refine S_nil ?_
  refine E_inblock ?_
  refine E_then ?_
  refine C_region ?_
  refine S_v (.int .i64 1) ?_
  refine S_v (.int .i64 1) ?_
  refine S_nil ?_
  refine E_rounds ?_
  refine R_succ ?_
  refine C_forget (fun g => ⟨#[g 0, g 1, pt b1 0, pt b2 0, pt b3 0, pt b4 0, g 6, g 7, g 8, g 9, g 10, g 11, g 12, .int .i64 1, g 14, g 15, g 16, g 17, g 18, g 19, g 20, g 21, g 22, g 23, g 24, g 25, g 26, g 27, g 28, g 29, g 30, g 31, g 32, g 33, g 34, g 35, g 36, g 37, g 38, g 39, g 40, g 41, g 42, g 43, g 44, g 45, g 46, g 47, g 48, g 49, g 50, g 51, g 52, g 53, g 54, g 55, g 56, g 57, g 58, g 59, g 60, g 61, g 62, g 63, g 64, g 65, g 66, g 67, g 68, g 69, g 70, g 71, g 72, g 73, g 74, g 75, g 76, g 77, g 78, g 79, g 80, g 81, g 82, g 83, g 84, g 85, g 86, g 87, g 88, g 89, g 90, g 91, g 92, g 93, g 94, g 95, g 96, g 97, g 98, g 99, g 100], []⟩) (by kernel_rfl) ?_
  intro g
  have R0 := mround (a0 := lb a 0) (a1 := lb a 1) (a2 := lb a 2) (a3 := lb a 3) (b := lb b 0) (t0 := 0) (t1 := 0) (t2 := 0) (t3 := 0) (t4 := 0) lx16 ex5 ex7 ex9 ex11 hx13 hk14 hx15 ex16 ex18 ex20 ex22 hx24 hk25 hx26 ok14 ok25
  refine C_seq ?_
  refine C_region ?_
  refine S_v (.bool true) ?_
  refine S_nil ?_
  refine E_then ?_
  refine C_seq ?_
  refine C_true (by kernel_rfl) ?_
  refine C_skip ?_
  refine E_then ?_
  refine C_seq ?_
  refine C_block ?_
  refine C_seq ?_
  refine C_region ?_
  refine S_v (.int .i64 1) ?_
  refine S_v (.int .i64 1) ?_
  refine S_nil ?_
  refine E_then ?_
  refine C_seq ?_
  refine C_region ?_
  refine S_v (.int .u64 0) ?_
  refine S_v (.int .u64 0) ?_
  refine S_nil ?_
  refine E_then ?_
  refine C_seq ?_
  refine C_seq ?_
  refine C_region ?_
  refine S_v (.int .i64 0) ?_
  refine S_nil ?_
  refine E_then ?_
  refine C_block ?_
  refine C_unroll 5 ?_
  refine R_succ ?_
  refine C_forget (fun g => ⟨#[g 0, g 1, pt b1 0, pt b2 0, pt b3 0, pt b4 0, .int .i64 1, .int .u64 0, g 8, g 9, g 10, g 11, g 12, .int .i64 1, g 14, g 15, .int .i64 0, g 17, g 18, g 19, g 20, g 21, g 22, g 23, g 24, g 25, g 26, g 27, g 28, g 29, g 30, g 31, g 32, g 33, g 34, g 35, g 36, g 37, g 38, g 39, g 40, g 41, g 42, g 43, g 44, g 45, g 46, g 47, g 48, g 49, g 50, g 51, g 52, g 53, g 54, g 55, g 56, g 57, g 58, g 59, g 60, g 61, g 62, g 63, g 64, g 65, g 66, g 67, g 68, g 69, g 70, g 71, g 72, g 73, g 74, g 75, g 76, g 77, g 78, g 79, g 80, g 81, g 82, g 83, g 84, g 85, g 86, g 87, g 88, g 89, g 90, g 91, g 92, g 93, g 94, g 95, g 96, g 97, g 98, g 99, g 100], []⟩) (by kernel_rfl) ?_
  intro g
  refine C_seq ?_
  refine C_region ?_
  refine S_v (.bool true) ?_
  refine S_nil ?_
  refine E_then ?_
  refine C_seq ?_
  refine C_true (by kernel_rfl) ?_
  refine C_skip ?_
  refine E_then ?_
  refine C_seq ?_
  refine C_block ?_
  refine C_seq ?_
  refine C_region ?_
  refine S_v (.int .i64 0) ?_
  refine S_v (.int .i64 0) ?_
  refine S_nil ?_
  refine E_then ?_
  refine C_drawn [.pure, .pure, .pure, .held, .pure, .pure, .held, .pure, .pure, .held, .pure, .held, .pure, .pure, .pure, .pure, .eff, .pure] (by kernel_rfl) (by kernel_rfl) ?_
  refine D_v (.int .i64 0) ?_
  refine D_v (.int .i64 0) ?_
  refine D_v (pt b1 0) ?_
  refine D_held (wd (lb a 0)) (by kernel_rfl) (ld1 3 b1 0 [wd (lb a 0), wd (lb a 1), wd (lb a 2), wd (lb a 3)] 34 rfl (by kernel_rfl) Tryd.isAgg29 (by kernel_rfl) (by kernel_rfl)) ?_
  refine D_v (.int .i64 1) ?_
  refine D_v (pt b2 1) ?_
  refine D_held (wd (lb b 1)) (by kernel_rfl) (ld1 2 b2 1 [wd (lb b 0), wd (lb b 1), wd (lb b 2), wd (lb b 3)] 34 rfl (by kernel_rfl) Tryd.isAgg29 (by kernel_rfl) (by kernel_rfl)) ?_
  refine D_v (.int .i64 0) ?_
  refine D_v (pt b4 0) ?_
  refine D_held (wd x18) (by kernel_rfl) (ld1 0 b4 0 [wd x18, wd x20, wd x22, wd x24, wd x26] 30 rfl (by kernel_rfl) Tryd.isAgg29 (by kernel_rfl) (by kernel_rfl)) ?_
  refine D_v (.int .u64 0) ?_
  obtain ⟨x27, c28, ex27, lx27, lc28, px27⟩ := into_ex (lb a 0) (lb b 1) x18 0 (lb_lt a 0) (lb_lt b 1) lx18 (by decide)
  refine D_pure (v := .tuple #[wd x27, wd c28]) (by kernel_rfl) px27 (fun _ => by kernel_rfl) ?_
  refine D_v (.tuple #[wd x27, wd c28]) ?_
  refine D_v (wd x27) ?_
  refine D_v (wd c28) ?_
  refine D_v (pt b4 0) ?_
  refine D_do (by kernel_rfl) (st1 (v := wd x27) (L' := [⟨b4, [wd x27, wd x20, wd x22, wd x24, wd x26], 30⟩, ⟨b3, [.int .u64 0, .int .u64 0, .int .u64 0, .int .u64 0], 34⟩, ⟨b2, [wd (lb b 0), wd (lb b 1), wd (lb b 2), wd (lb b 3)], 34⟩, ⟨b1, [wd (lb a 0), wd (lb a 1), wd (lb a 2), wd (lb a 3)], 34⟩]) 0 b4 0 [wd x18, wd x20, wd x22, wd x24, wd x26] 30 rfl (by kernel_rfl) (by kernel_rfl) Tryd.sizeOf29 (by rfl) (by kernel_rfl) (by simp) (by kernel_rfl)) ?_
  refine D_v (wd c28) ?_
  refine D_nil ?_
  refine E_inblock ?_
  refine E_then ?_
  refine C_region ?_
  refine S_v (.int .i64 1) ?_
  refine S_v (.int .i64 1) ?_
  refine S_nil ?_
  refine E_rounds ?_
  refine R_succ ?_
  refine C_forget (fun g => ⟨#[g 0, g 1, pt b1 0, pt b2 0, pt b3 0, pt b4 0, .int .i64 1, wd c28, g 8, g 9, g 10, g 11, g 12, .int .i64 1, g 14, g 15, .int .i64 1, g 17, g 18, g 19, g 20, g 21, g 22, g 23, g 24, g 25, g 26, g 27, g 28, g 29, g 30, g 31, g 32, g 33, g 34, g 35, g 36, g 37, g 38, g 39, g 40, g 41, g 42, g 43, g 44, g 45, g 46, g 47, g 48, g 49, g 50, g 51, g 52, g 53, g 54, g 55, g 56, g 57, g 58, g 59, g 60, g 61, g 62, g 63, g 64, g 65, g 66, g 67, g 68, g 69, g 70, g 71, g 72, g 73, g 74, g 75, g 76, g 77, g 78, g 79, g 80, g 81, g 82, g 83, g 84, g 85, g 86, g 87, g 88, g 89, g 90, g 91, g 92, g 93, g 94, g 95, g 96, g 97, g 98, g 99, g 100], []⟩) (by kernel_rfl) ?_
  intro g
  refine C_seq ?_
  refine C_region ?_
  refine S_v (.bool true) ?_
  refine S_nil ?_
  refine E_then ?_
  refine C_seq ?_
  refine C_true (by kernel_rfl) ?_
  refine C_skip ?_
  refine E_then ?_
  refine C_seq ?_
  refine C_block ?_
  refine C_seq ?_
  refine C_region ?_
  refine S_v (.int .i64 1) ?_
  refine S_v (.int .i64 1) ?_
  refine S_nil ?_
  refine E_then ?_
  refine C_drawn [.pure, .pure, .pure, .held, .pure, .pure, .held, .pure, .pure, .held, .pure, .held, .pure, .pure, .pure, .pure, .eff, .pure] (by kernel_rfl) (by kernel_rfl) ?_
  refine D_v (.int .i64 1) ?_
  refine D_v (.int .i64 1) ?_
  refine D_v (pt b1 1) ?_
  refine D_held (wd (lb a 1)) (by kernel_rfl) (ld1 3 b1 1 [wd (lb a 0), wd (lb a 1), wd (lb a 2), wd (lb a 3)] 34 rfl (by kernel_rfl) Tryd.isAgg29 (by kernel_rfl) (by kernel_rfl)) ?_
  refine D_v (.int .i64 1) ?_
  refine D_v (pt b2 1) ?_
  refine D_held (wd (lb b 1)) (by kernel_rfl) (ld1 2 b2 1 [wd (lb b 0), wd (lb b 1), wd (lb b 2), wd (lb b 3)] 34 rfl (by kernel_rfl) Tryd.isAgg29 (by kernel_rfl) (by kernel_rfl)) ?_
  refine D_v (.int .i64 1) ?_
  refine D_v (pt b4 1) ?_
  refine D_held (wd x20) (by kernel_rfl) (ld1 0 b4 1 [wd x27, wd x20, wd x22, wd x24, wd x26] 30 rfl (by kernel_rfl) Tryd.isAgg29 (by kernel_rfl) (by kernel_rfl)) ?_
  refine D_v (wd c28) ?_
  obtain ⟨x29, c30, ex29, lx29, lc30, px29⟩ := into_ex (lb a 1) (lb b 1) x20 c28 (lb_lt a 1) (lb_lt b 1) lx20 lc28
  refine D_pure (v := .tuple #[wd x29, wd c30]) (by kernel_rfl) px29 (fun _ => by kernel_rfl) ?_
  refine D_v (.tuple #[wd x29, wd c30]) ?_
  refine D_v (wd x29) ?_
  refine D_v (wd c30) ?_
  refine D_v (pt b4 1) ?_
  refine D_do (by kernel_rfl) (st1 (v := wd x29) (L' := [⟨b4, [wd x27, wd x29, wd x22, wd x24, wd x26], 30⟩, ⟨b3, [.int .u64 0, .int .u64 0, .int .u64 0, .int .u64 0], 34⟩, ⟨b2, [wd (lb b 0), wd (lb b 1), wd (lb b 2), wd (lb b 3)], 34⟩, ⟨b1, [wd (lb a 0), wd (lb a 1), wd (lb a 2), wd (lb a 3)], 34⟩]) 0 b4 1 [wd x27, wd x20, wd x22, wd x24, wd x26] 30 rfl (by kernel_rfl) (by kernel_rfl) Tryd.sizeOf29 (by rfl) (by kernel_rfl) (by simp) (by kernel_rfl)) ?_
  refine D_v (wd c30) ?_
  refine D_nil ?_
  refine E_inblock ?_
  refine E_then ?_
  refine C_region ?_
  refine S_v (.int .i64 2) ?_
  refine S_v (.int .i64 2) ?_
  refine S_nil ?_
  refine E_rounds ?_
  refine R_succ ?_
  refine C_forget (fun g => ⟨#[g 0, g 1, pt b1 0, pt b2 0, pt b3 0, pt b4 0, .int .i64 1, wd c30, g 8, g 9, g 10, g 11, g 12, .int .i64 1, g 14, g 15, .int .i64 2, g 17, g 18, g 19, g 20, g 21, g 22, g 23, g 24, g 25, g 26, g 27, g 28, g 29, g 30, g 31, g 32, g 33, g 34, g 35, g 36, g 37, g 38, g 39, g 40, g 41, g 42, g 43, g 44, g 45, g 46, g 47, g 48, g 49, g 50, g 51, g 52, g 53, g 54, g 55, g 56, g 57, g 58, g 59, g 60, g 61, g 62, g 63, g 64, g 65, g 66, g 67, g 68, g 69, g 70, g 71, g 72, g 73, g 74, g 75, g 76, g 77, g 78, g 79, g 80, g 81, g 82, g 83, g 84, g 85, g 86, g 87, g 88, g 89, g 90, g 91, g 92, g 93, g 94, g 95, g 96, g 97, g 98, g 99, g 100], []⟩) (by kernel_rfl) ?_
  intro g
  refine C_seq ?_
  refine C_region ?_
  refine S_v (.bool true) ?_
  refine S_nil ?_
  refine E_then ?_
  refine C_seq ?_
  refine C_true (by kernel_rfl) ?_
  refine C_skip ?_
  refine E_then ?_
  refine C_seq ?_
  refine C_block ?_
  refine C_seq ?_
  refine C_region ?_
  refine S_v (.int .i64 2) ?_
  refine S_v (.int .i64 2) ?_
  refine S_nil ?_
  refine E_then ?_
  refine C_drawn [.pure, .pure, .pure, .held, .pure, .pure, .held, .pure, .pure, .held, .pure, .held, .pure, .pure, .pure, .pure, .eff, .pure] (by kernel_rfl) (by kernel_rfl) ?_
  refine D_v (.int .i64 2) ?_
  refine D_v (.int .i64 2) ?_
  refine D_v (pt b1 2) ?_
  refine D_held (wd (lb a 2)) (by kernel_rfl) (ld1 3 b1 2 [wd (lb a 0), wd (lb a 1), wd (lb a 2), wd (lb a 3)] 34 rfl (by kernel_rfl) Tryd.isAgg29 (by kernel_rfl) (by kernel_rfl)) ?_
  refine D_v (.int .i64 1) ?_
  refine D_v (pt b2 1) ?_
  refine D_held (wd (lb b 1)) (by kernel_rfl) (ld1 2 b2 1 [wd (lb b 0), wd (lb b 1), wd (lb b 2), wd (lb b 3)] 34 rfl (by kernel_rfl) Tryd.isAgg29 (by kernel_rfl) (by kernel_rfl)) ?_
  refine D_v (.int .i64 2) ?_
  refine D_v (pt b4 2) ?_
  refine D_held (wd x22) (by kernel_rfl) (ld1 0 b4 2 [wd x27, wd x29, wd x22, wd x24, wd x26] 30 rfl (by kernel_rfl) Tryd.isAgg29 (by kernel_rfl) (by kernel_rfl)) ?_
  refine D_v (wd c30) ?_
  obtain ⟨x31, c32, ex31, lx31, lc32, px31⟩ := into_ex (lb a 2) (lb b 1) x22 c30 (lb_lt a 2) (lb_lt b 1) lx22 lc30
  refine D_pure (v := .tuple #[wd x31, wd c32]) (by kernel_rfl) px31 (fun _ => by kernel_rfl) ?_
  refine D_v (.tuple #[wd x31, wd c32]) ?_
  refine D_v (wd x31) ?_
  refine D_v (wd c32) ?_
  refine D_v (pt b4 2) ?_
  refine D_do (by kernel_rfl) (st1 (v := wd x31) (L' := [⟨b4, [wd x27, wd x29, wd x31, wd x24, wd x26], 30⟩, ⟨b3, [.int .u64 0, .int .u64 0, .int .u64 0, .int .u64 0], 34⟩, ⟨b2, [wd (lb b 0), wd (lb b 1), wd (lb b 2), wd (lb b 3)], 34⟩, ⟨b1, [wd (lb a 0), wd (lb a 1), wd (lb a 2), wd (lb a 3)], 34⟩]) 0 b4 2 [wd x27, wd x29, wd x22, wd x24, wd x26] 30 rfl (by kernel_rfl) (by kernel_rfl) Tryd.sizeOf29 (by rfl) (by kernel_rfl) (by simp) (by kernel_rfl)) ?_
  refine D_v (wd c32) ?_
  refine D_nil ?_
  refine E_inblock ?_
  refine E_then ?_
  refine C_region ?_
  refine S_v (.int .i64 3) ?_
  refine S_v (.int .i64 3) ?_
  refine S_nil ?_
  refine E_rounds ?_
  refine R_succ ?_
  refine C_forget (fun g => ⟨#[g 0, g 1, pt b1 0, pt b2 0, pt b3 0, pt b4 0, .int .i64 1, wd c32, g 8, g 9, g 10, g 11, g 12, .int .i64 1, g 14, g 15, .int .i64 3, g 17, g 18, g 19, g 20, g 21, g 22, g 23, g 24, g 25, g 26, g 27, g 28, g 29, g 30, g 31, g 32, g 33, g 34, g 35, g 36, g 37, g 38, g 39, g 40, g 41, g 42, g 43, g 44, g 45, g 46, g 47, g 48, g 49, g 50, g 51, g 52, g 53, g 54, g 55, g 56, g 57, g 58, g 59, g 60, g 61, g 62, g 63, g 64, g 65, g 66, g 67, g 68, g 69, g 70, g 71, g 72, g 73, g 74, g 75, g 76, g 77, g 78, g 79, g 80, g 81, g 82, g 83, g 84, g 85, g 86, g 87, g 88, g 89, g 90, g 91, g 92, g 93, g 94, g 95, g 96, g 97, g 98, g 99, g 100], []⟩) (by kernel_rfl) ?_
  intro g
  refine C_seq ?_
  refine C_region ?_
  refine S_v (.bool true) ?_
  refine S_nil ?_
  refine E_then ?_
  refine C_seq ?_
  refine C_true (by kernel_rfl) ?_
  refine C_skip ?_
  refine E_then ?_
  refine C_seq ?_
  refine C_block ?_
  refine C_seq ?_
  refine C_region ?_
  refine S_v (.int .i64 3) ?_
  refine S_v (.int .i64 3) ?_
  refine S_nil ?_
  refine E_then ?_
  refine C_drawn [.pure, .pure, .pure, .held, .pure, .pure, .held, .pure, .pure, .held, .pure, .held, .pure, .pure, .pure, .pure, .eff, .pure] (by kernel_rfl) (by kernel_rfl) ?_
  refine D_v (.int .i64 3) ?_
  refine D_v (.int .i64 3) ?_
  refine D_v (pt b1 3) ?_
  refine D_held (wd (lb a 3)) (by kernel_rfl) (ld1 3 b1 3 [wd (lb a 0), wd (lb a 1), wd (lb a 2), wd (lb a 3)] 34 rfl (by kernel_rfl) Tryd.isAgg29 (by kernel_rfl) (by kernel_rfl)) ?_
  refine D_v (.int .i64 1) ?_
  refine D_v (pt b2 1) ?_
  refine D_held (wd (lb b 1)) (by kernel_rfl) (ld1 2 b2 1 [wd (lb b 0), wd (lb b 1), wd (lb b 2), wd (lb b 3)] 34 rfl (by kernel_rfl) Tryd.isAgg29 (by kernel_rfl) (by kernel_rfl)) ?_
  refine D_v (.int .i64 3) ?_
  refine D_v (pt b4 3) ?_
  refine D_held (wd x24) (by kernel_rfl) (ld1 0 b4 3 [wd x27, wd x29, wd x31, wd x24, wd x26] 30 rfl (by kernel_rfl) Tryd.isAgg29 (by kernel_rfl) (by kernel_rfl)) ?_
  refine D_v (wd c32) ?_
  obtain ⟨x33, c34, ex33, lx33, lc34, px33⟩ := into_ex (lb a 3) (lb b 1) x24 c32 (lb_lt a 3) (lb_lt b 1) lx24 lc32
  refine D_pure (v := .tuple #[wd x33, wd c34]) (by kernel_rfl) px33 (fun _ => by kernel_rfl) ?_
  refine D_v (.tuple #[wd x33, wd c34]) ?_
  refine D_v (wd x33) ?_
  refine D_v (wd c34) ?_
  refine D_v (pt b4 3) ?_
  refine D_do (by kernel_rfl) (st1 (v := wd x33) (L' := [⟨b4, [wd x27, wd x29, wd x31, wd x33, wd x26], 30⟩, ⟨b3, [.int .u64 0, .int .u64 0, .int .u64 0, .int .u64 0], 34⟩, ⟨b2, [wd (lb b 0), wd (lb b 1), wd (lb b 2), wd (lb b 3)], 34⟩, ⟨b1, [wd (lb a 0), wd (lb a 1), wd (lb a 2), wd (lb a 3)], 34⟩]) 0 b4 3 [wd x27, wd x29, wd x31, wd x24, wd x26] 30 rfl (by kernel_rfl) (by kernel_rfl) Tryd.sizeOf29 (by rfl) (by kernel_rfl) (by simp) (by kernel_rfl)) ?_
  refine D_v (wd c34) ?_
  refine D_nil ?_
  refine E_inblock ?_
  refine E_then ?_
  refine C_region ?_
  refine S_v (.int .i64 4) ?_
  refine S_v (.int .i64 4) ?_
  refine S_nil ?_
  refine E_rounds ?_
  refine R_succ ?_
  refine C_forget (fun g => ⟨#[g 0, g 1, pt b1 0, pt b2 0, pt b3 0, pt b4 0, .int .i64 1, wd c34, g 8, g 9, g 10, g 11, g 12, .int .i64 1, g 14, g 15, .int .i64 4, g 17, g 18, g 19, g 20, g 21, g 22, g 23, g 24, g 25, g 26, g 27, g 28, g 29, g 30, g 31, g 32, g 33, g 34, g 35, g 36, g 37, g 38, g 39, g 40, g 41, g 42, g 43, g 44, g 45, g 46, g 47, g 48, g 49, g 50, g 51, g 52, g 53, g 54, g 55, g 56, g 57, g 58, g 59, g 60, g 61, g 62, g 63, g 64, g 65, g 66, g 67, g 68, g 69, g 70, g 71, g 72, g 73, g 74, g 75, g 76, g 77, g 78, g 79, g 80, g 81, g 82, g 83, g 84, g 85, g 86, g 87, g 88, g 89, g 90, g 91, g 92, g 93, g 94, g 95, g 96, g 97, g 98, g 99, g 100], []⟩) (by kernel_rfl) ?_
  intro g
  refine C_seq ?_
  refine C_region ?_
  refine S_v (.bool false) ?_
  refine S_nil ?_
  refine E_then ?_
  refine C_seq ?_
  refine C_false (by kernel_rfl) ?_
  refine C_exit ?_
  refine E_pass_exit ?_
  refine E_pass_exit ?_
  refine E_outblock ?_
  refine E_then ?_
  refine C_seq ?_
  refine C_region ?_
  refine S_v (pt b4 4) ?_
  refine S_val (wd x26) (by kernel_rfl) (ld1 0 b4 4 [wd x27, wd x29, wd x31, wd x33, wd x26] 30 rfl (by kernel_rfl) Tryd.isAgg29 (by kernel_rfl) (by kernel_rfl)) ?_
  refine S_v (wd c34) ?_
  obtain ⟨x35, k36, ex35, lx35, ok36, hx35, hk36⟩ := addc_ex x26 c34 0 lx26 lc34 (by decide)
  refine S_val (.tuple #[wd x35, wd k36]) (by kernel_rfl) (fun w _ => fv (v := .tuple #[wd ((x26 + c34 + 0) % 18446744073709551616), wd ((x26 + c34 + 0) / 18446744073709551616)]) (by rw [hx35, hk36]) ((clv (x := .func 52) rfl (by kernel_rfl) (by kernel_rfl) (by kernel_rfl) (x_add x26 c34 0 (by decide))) w)) ?_
  refine S_v (.tuple #[wd x35, wd k36]) ?_
  refine S_v (wd x35) ?_
  refine S_v (wd k36) ?_
  refine S_v (pt b4 4) ?_
  refine S_do (by kernel_rfl) (st1 (v := wd x35) (L' := [⟨b4, [wd x27, wd x29, wd x31, wd x33, wd x35], 30⟩, ⟨b3, [.int .u64 0, .int .u64 0, .int .u64 0, .int .u64 0], 34⟩, ⟨b2, [wd (lb b 0), wd (lb b 1), wd (lb b 2), wd (lb b 3)], 34⟩, ⟨b1, [wd (lb a 0), wd (lb a 1), wd (lb a 2), wd (lb a 3)], 34⟩]) 0 b4 4 [wd x27, wd x29, wd x31, wd x33, wd x26] 30 rfl (by kernel_rfl) (by kernel_rfl) Tryd.sizeOf29 (by rfl) (by kernel_rfl) (by simp) (by kernel_rfl)) ?_
  refine S_v (wd k36) ?_
  refine S_nil ?_
  refine E_then ?_
  refine C_seq ?_
  refine C_region ?_
  refine S_v (wd k36) ?_
  refine S_v (wd k36) ?_
  refine S_nil ?_
  refine E_then ?_
  refine C_seq ?_
  refine C_region ?_
  refine S_v (pt b4 0) ?_
  refine S_val (wd x27) (by kernel_rfl) (ld1 0 b4 0 [wd x27, wd x29, wd x31, wd x33, wd x35] 30 rfl (by kernel_rfl) Tryd.isAgg29 (by kernel_rfl) (by kernel_rfl)) ?_
  obtain ⟨x37, hx37, lx37⟩ : ∃ q, q = (x27 * 15183074304973897243) % 18446744073709551616 ∧ q < 18446744073709551616 := ⟨_, rfl, Nat.mod_lt _ (by decide)⟩
  refine S_val (wd x37) (by kernel_rfl) (fun _ _ => fv (v := .int .u64 (IntKind.u64.wrap (((x27 : Nat) : Int) * 15183074304973897243))) ((vint (hx37 ▸ u_mul x27 15183074304973897243))) (by kernel_rfl)) ?_
  refine S_v (wd x37) ?_
  refine S_nil ?_
  refine E_then ?_
  refine C_seq ?_
  refine C_region ?_
  refine S_v (wd x37) ?_
  refine S_v (pt 0 0) ?_
  refine S_v (pt 0 0) ?_
  refine S_val (.int .u64 6346243789798364141) (by kernel_rfl) (ld1o (v := .int .u64 6346243789798364141) 0 0 rfl (by kernel_rfl) Tryd.isAgg29 (hT.at 0 (by kernel_rfl))) ?_
  refine S_v (pt b4 0) ?_
  refine S_val (wd x27) (by kernel_rfl) (ld1 0 b4 0 [wd x27, wd x29, wd x31, wd x33, wd x35] 30 rfl (by kernel_rfl) Tryd.isAgg29 (by kernel_rfl) (by kernel_rfl)) ?_
  obtain ⟨x38, c39, ex38, lx38, lc39, px38⟩ := into_ex x37 6346243789798364141 x27 0 lx37 (by decide) lx27 (by decide)
  refine S_pure (v := .tuple #[wd x38, wd c39]) (by kernel_rfl) px38 (fun _ => by kernel_rfl) ?_
  refine S_v (.tuple #[wd x38, wd c39]) ?_
  refine S_v (wd x38) ?_
  refine S_v (wd c39) ?_
  refine S_v (wd c39) ?_
  refine S_nil ?_
  refine E_then ?_
  refine C_seq ?_
  refine C_seq ?_
  refine C_region ?_
  refine S_v (.int .i64 1) ?_
  refine S_nil ?_
  refine E_then ?_
  refine C_block ?_
  refine C_unroll 4 ?_
  refine R_succ ?_
  refine C_forget (fun g => ⟨#[g 0, g 1, pt b1 0, pt b2 0, pt b3 0, pt b4 0, g 6, wd c39, g 8, g 9, wd k36, wd x37, .int .i64 1, .int .i64 1, g 14, g 15, g 16, g 17, g 18, g 19, g 20, g 21, g 22, g 23, g 24, g 25, g 26, g 27, g 28, g 29, g 30, g 31, g 32, g 33, g 34, g 35, g 36, g 37, g 38, g 39, g 40, g 41, g 42, g 43, g 44, g 45, g 46, g 47, g 48, g 49, g 50, g 51, g 52, g 53, g 54, g 55, g 56, g 57, g 58, g 59, g 60, g 61, g 62, g 63, g 64, g 65, g 66, g 67, g 68, g 69, g 70, g 71, g 72, g 73, g 74, g 75, g 76, g 77, g 78, g 79, g 80, g 81, g 82, g 83, g 84, g 85, g 86, g 87, g 88, g 89, g 90, g 91, g 92, g 93, g 94, g 95, g 96, g 97, g 98, g 99, g 100], []⟩) (by kernel_rfl) ?_
  intro g
  refine C_seq ?_
  refine C_seq ?_
  refine C_region ?_
  refine S_v (.int .i64 1) ?_
  refine S_v (.bool true) ?_
  refine S_nil ?_
  refine E_then ?_
  refine C_true (by kernel_rfl) ?_
  refine C_skip ?_
  refine E_then ?_
  refine C_seq ?_
  refine C_block ?_
  refine C_drawn [.pure, .pure, .pure, .pure, .pure, .pure, .held, .pure, .pure, .held, .pure, .held, .pure, .pure, .pure, .pure, .eff, .pure] (by kernel_rfl) (by kernel_rfl) ?_
  refine D_v (.int .i64 1) ?_
  refine D_v (.int .i64 0) ?_
  refine D_v (wd x37) ?_
  refine D_v (.int .i64 1) ?_
  refine D_v (pt 0 0) ?_
  refine D_v (pt 0 1) ?_
  refine D_held (.int .u64 1503914060200516822) (by kernel_rfl) (ld1o (v := .int .u64 1503914060200516822) 0 1 rfl (by kernel_rfl) Tryd.isAgg29 (hT.at 1 (by kernel_rfl))) ?_
  refine D_v (.int .i64 1) ?_
  refine D_v (pt b4 1) ?_
  refine D_held (wd x29) (by kernel_rfl) (ld1 0 b4 1 [wd x27, wd x29, wd x31, wd x33, wd x35] 30 rfl (by kernel_rfl) Tryd.isAgg29 (by kernel_rfl) (by kernel_rfl)) ?_
  refine D_v (wd c39) ?_
  obtain ⟨x40, c41, ex40, lx40, lc41, px40⟩ := into_ex x37 1503914060200516822 x29 c39 lx37 (by decide) lx29 lc39
  refine D_pure (v := .tuple #[wd x40, wd c41]) (by kernel_rfl) px40 (fun _ => by kernel_rfl) ?_
  refine D_v (.tuple #[wd x40, wd c41]) ?_
  refine D_v (wd x40) ?_
  refine D_v (wd c41) ?_
  refine D_v (pt b4 0) ?_
  refine D_do (by kernel_rfl) (st1 (v := wd x40) (L' := [⟨b4, [wd x40, wd x29, wd x31, wd x33, wd x35], 30⟩, ⟨b3, [.int .u64 0, .int .u64 0, .int .u64 0, .int .u64 0], 34⟩, ⟨b2, [wd (lb b 0), wd (lb b 1), wd (lb b 2), wd (lb b 3)], 34⟩, ⟨b1, [wd (lb a 0), wd (lb a 1), wd (lb a 2), wd (lb a 3)], 34⟩]) 0 b4 0 [wd x27, wd x29, wd x31, wd x33, wd x35] 30 rfl (by kernel_rfl) (by kernel_rfl) Tryd.sizeOf29 (by rfl) (by kernel_rfl) (by simp) (by kernel_rfl)) ?_
  refine D_v (wd c41) ?_
  refine D_nil ?_
  refine E_inblock ?_
  refine E_then ?_
  refine C_region ?_
  refine S_v (.int .i64 1) ?_
  refine S_v (.int .i64 2) ?_
  refine S_v (.int .i64 2) ?_
  refine S_nil ?_
  refine E_rounds ?_
  refine R_succ ?_
  refine C_forget (fun g => ⟨#[g 0, g 1, pt b1 0, pt b2 0, pt b3 0, pt b4 0, g 6, wd c41, g 8, g 9, wd k36, wd x37, .int .i64 2, .int .i64 1, g 14, g 15, g 16, g 17, g 18, g 19, g 20, g 21, g 22, g 23, g 24, g 25, g 26, g 27, g 28, g 29, g 30, g 31, g 32, g 33, g 34, g 35, g 36, g 37, g 38, g 39, g 40, g 41, g 42, g 43, g 44, g 45, g 46, g 47, g 48, g 49, g 50, g 51, g 52, g 53, g 54, g 55, g 56, g 57, g 58, g 59, g 60, g 61, g 62, g 63, g 64, g 65, g 66, g 67, g 68, g 69, g 70, g 71, g 72, g 73, g 74, g 75, g 76, g 77, g 78, g 79, g 80, g 81, g 82, g 83, g 84, g 85, g 86, g 87, g 88, g 89, g 90, g 91, g 92, g 93, g 94, g 95, g 96, g 97, g 98, g 99, g 100], []⟩) (by kernel_rfl) ?_
  intro g
  refine C_seq ?_
  refine C_seq ?_
  refine C_region ?_
  refine S_v (.int .i64 2) ?_
  refine S_v (.bool true) ?_
  refine S_nil ?_
  refine E_then ?_
  refine C_true (by kernel_rfl) ?_
  refine C_skip ?_
  refine E_then ?_
  refine C_seq ?_
  refine C_block ?_
  refine C_drawn [.pure, .pure, .pure, .pure, .pure, .pure, .held, .pure, .pure, .held, .pure, .held, .pure, .pure, .pure, .pure, .eff, .pure] (by kernel_rfl) (by kernel_rfl) ?_
  refine D_v (.int .i64 2) ?_
  refine D_v (.int .i64 1) ?_
  refine D_v (wd x37) ?_
  refine D_v (.int .i64 2) ?_
  refine D_v (pt 0 0) ?_
  refine D_v (pt 0 2) ?_
  refine D_held (.int .u64 0) (by kernel_rfl) (ld1o (v := .int .u64 0) 0 2 rfl (by kernel_rfl) Tryd.isAgg29 (hT.at 2 (by kernel_rfl))) ?_
  refine D_v (.int .i64 2) ?_
  refine D_v (pt b4 2) ?_
  refine D_held (wd x31) (by kernel_rfl) (ld1 0 b4 2 [wd x40, wd x29, wd x31, wd x33, wd x35] 30 rfl (by kernel_rfl) Tryd.isAgg29 (by kernel_rfl) (by kernel_rfl)) ?_
  refine D_v (wd c41) ?_
  obtain ⟨x42, c43, ex42, lx42, lc43, px42⟩ := into_ex x37 0 x31 c41 lx37 (by decide) lx31 lc41
  refine D_pure (v := .tuple #[wd x42, wd c43]) (by kernel_rfl) px42 (fun _ => by kernel_rfl) ?_
  refine D_v (.tuple #[wd x42, wd c43]) ?_
  refine D_v (wd x42) ?_
  refine D_v (wd c43) ?_
  refine D_v (pt b4 1) ?_
  refine D_do (by kernel_rfl) (st1 (v := wd x42) (L' := [⟨b4, [wd x40, wd x42, wd x31, wd x33, wd x35], 30⟩, ⟨b3, [.int .u64 0, .int .u64 0, .int .u64 0, .int .u64 0], 34⟩, ⟨b2, [wd (lb b 0), wd (lb b 1), wd (lb b 2), wd (lb b 3)], 34⟩, ⟨b1, [wd (lb a 0), wd (lb a 1), wd (lb a 2), wd (lb a 3)], 34⟩]) 0 b4 1 [wd x40, wd x29, wd x31, wd x33, wd x35] 30 rfl (by kernel_rfl) (by kernel_rfl) Tryd.sizeOf29 (by rfl) (by kernel_rfl) (by simp) (by kernel_rfl)) ?_
  refine D_v (wd c43) ?_
  refine D_nil ?_
  refine E_inblock ?_
  refine E_then ?_
  refine C_region ?_
  refine S_v (.int .i64 2) ?_
  refine S_v (.int .i64 3) ?_
  refine S_v (.int .i64 3) ?_
  refine S_nil ?_
  refine E_rounds ?_
  refine R_succ ?_
  refine C_forget (fun g => ⟨#[g 0, g 1, pt b1 0, pt b2 0, pt b3 0, pt b4 0, g 6, wd c43, g 8, g 9, wd k36, wd x37, .int .i64 3, .int .i64 1, g 14, g 15, g 16, g 17, g 18, g 19, g 20, g 21, g 22, g 23, g 24, g 25, g 26, g 27, g 28, g 29, g 30, g 31, g 32, g 33, g 34, g 35, g 36, g 37, g 38, g 39, g 40, g 41, g 42, g 43, g 44, g 45, g 46, g 47, g 48, g 49, g 50, g 51, g 52, g 53, g 54, g 55, g 56, g 57, g 58, g 59, g 60, g 61, g 62, g 63, g 64, g 65, g 66, g 67, g 68, g 69, g 70, g 71, g 72, g 73, g 74, g 75, g 76, g 77, g 78, g 79, g 80, g 81, g 82, g 83, g 84, g 85, g 86, g 87, g 88, g 89, g 90, g 91, g 92, g 93, g 94, g 95, g 96, g 97, g 98, g 99, g 100], []⟩) (by kernel_rfl) ?_
  intro g
  refine C_seq ?_
  refine C_seq ?_
  refine C_region ?_
  refine S_v (.int .i64 3) ?_
  refine S_v (.bool true) ?_
  refine S_nil ?_
  refine E_then ?_
  refine C_true (by kernel_rfl) ?_
  refine C_skip ?_
  refine E_then ?_
  refine C_seq ?_
  refine C_block ?_
  refine C_drawn [.pure, .pure, .pure, .pure, .pure, .pure, .held, .pure, .pure, .held, .pure, .held, .pure, .pure, .pure, .pure, .eff, .pure] (by kernel_rfl) (by kernel_rfl) ?_
  refine D_v (.int .i64 3) ?_
  refine D_v (.int .i64 2) ?_
  refine D_v (wd x37) ?_
  refine D_v (.int .i64 3) ?_
  refine D_v (pt 0 0) ?_
  refine D_v (pt 0 3) ?_
  refine D_held (.int .u64 1152921504606846976) (by kernel_rfl) (ld1o (v := .int .u64 1152921504606846976) 0 3 rfl (by kernel_rfl) Tryd.isAgg29 (hT.at 3 (by kernel_rfl))) ?_
  refine D_v (.int .i64 3) ?_
  refine D_v (pt b4 3) ?_
  refine D_held (wd x33) (by kernel_rfl) (ld1 0 b4 3 [wd x40, wd x42, wd x31, wd x33, wd x35] 30 rfl (by kernel_rfl) Tryd.isAgg29 (by kernel_rfl) (by kernel_rfl)) ?_
  refine D_v (wd c43) ?_
  obtain ⟨x44, c45, ex44, lx44, lc45, px44⟩ := into_ex x37 1152921504606846976 x33 c43 lx37 (by decide) lx33 lc43
  refine D_pure (v := .tuple #[wd x44, wd c45]) (by kernel_rfl) px44 (fun _ => by kernel_rfl) ?_
  refine D_v (.tuple #[wd x44, wd c45]) ?_
  refine D_v (wd x44) ?_
  refine D_v (wd c45) ?_
  refine D_v (pt b4 2) ?_
  refine D_do (by kernel_rfl) (st1 (v := wd x44) (L' := [⟨b4, [wd x40, wd x42, wd x44, wd x33, wd x35], 30⟩, ⟨b3, [.int .u64 0, .int .u64 0, .int .u64 0, .int .u64 0], 34⟩, ⟨b2, [wd (lb b 0), wd (lb b 1), wd (lb b 2), wd (lb b 3)], 34⟩, ⟨b1, [wd (lb a 0), wd (lb a 1), wd (lb a 2), wd (lb a 3)], 34⟩]) 0 b4 2 [wd x40, wd x42, wd x31, wd x33, wd x35] 30 rfl (by kernel_rfl) (by kernel_rfl) Tryd.sizeOf29 (by rfl) (by kernel_rfl) (by simp) (by kernel_rfl)) ?_
  refine D_v (wd c45) ?_
  refine D_nil ?_
  refine E_inblock ?_
  refine E_then ?_
  refine C_region ?_
  refine S_v (.int .i64 3) ?_
  refine S_v (.int .i64 4) ?_
  refine S_v (.int .i64 4) ?_
  refine S_nil ?_
  refine E_rounds ?_
  refine R_succ ?_
  refine C_forget (fun g => ⟨#[g 0, g 1, pt b1 0, pt b2 0, pt b3 0, pt b4 0, g 6, wd c45, g 8, g 9, wd k36, wd x37, .int .i64 4, .int .i64 1, g 14, g 15, g 16, g 17, g 18, g 19, g 20, g 21, g 22, g 23, g 24, g 25, g 26, g 27, g 28, g 29, g 30, g 31, g 32, g 33, g 34, g 35, g 36, g 37, g 38, g 39, g 40, g 41, g 42, g 43, g 44, g 45, g 46, g 47, g 48, g 49, g 50, g 51, g 52, g 53, g 54, g 55, g 56, g 57, g 58, g 59, g 60, g 61, g 62, g 63, g 64, g 65, g 66, g 67, g 68, g 69, g 70, g 71, g 72, g 73, g 74, g 75, g 76, g 77, g 78, g 79, g 80, g 81, g 82, g 83, g 84, g 85, g 86, g 87, g 88, g 89, g 90, g 91, g 92, g 93, g 94, g 95, g 96, g 97, g 98, g 99, g 100], []⟩) (by kernel_rfl) ?_
  intro g
  refine C_seq ?_
  refine C_seq ?_
  refine C_region ?_
  refine S_v (.int .i64 4) ?_
  refine S_v (.bool false) ?_
  refine S_nil ?_
  refine E_then ?_
  refine C_false (by kernel_rfl) ?_
  refine C_exit ?_
  refine E_pass_exit ?_
  refine E_pass_exit ?_
  refine E_outblock ?_
  refine E_then ?_
  refine C_seq ?_
  refine C_region ?_
  refine S_v (pt b4 4) ?_
  refine S_val (wd x35) (by kernel_rfl) (ld1 0 b4 4 [wd x40, wd x42, wd x44, wd x33, wd x35] 30 rfl (by kernel_rfl) Tryd.isAgg29 (by kernel_rfl) (by kernel_rfl)) ?_
  refine S_v (wd c45) ?_
  obtain ⟨x46, k47, ex46, lx46, ok47, hx46, hk47⟩ := addc_ex x35 c45 0 lx35 lc45 (by decide)
  refine S_val (.tuple #[wd x46, wd k47]) (by kernel_rfl) (fun w _ => fv (v := .tuple #[wd ((x35 + c45 + 0) % 18446744073709551616), wd ((x35 + c45 + 0) / 18446744073709551616)]) (by rw [hx46, hk47]) ((clv (x := .func 52) rfl (by kernel_rfl) (by kernel_rfl) (by kernel_rfl) (x_add x35 c45 0 (by decide))) w)) ?_
  refine S_v (.tuple #[wd x46, wd k47]) ?_
  refine S_v (wd x46) ?_
  refine S_v (wd k47) ?_
  refine S_v (pt b4 3) ?_
  refine S_do (by kernel_rfl) (st1 (v := wd x46) (L' := [⟨b4, [wd x40, wd x42, wd x44, wd x46, wd x35], 30⟩, ⟨b3, [.int .u64 0, .int .u64 0, .int .u64 0, .int .u64 0], 34⟩, ⟨b2, [wd (lb b 0), wd (lb b 1), wd (lb b 2), wd (lb b 3)], 34⟩, ⟨b1, [wd (lb a 0), wd (lb a 1), wd (lb a 2), wd (lb a 3)], 34⟩]) 0 b4 3 [wd x40, wd x42, wd x44, wd x33, wd x35] 30 rfl (by kernel_rfl) (by kernel_rfl) Tryd.sizeOf29 (by rfl) (by kernel_rfl) (by simp) (by kernel_rfl)) ?_
  refine S_v (wd k47) ?_
  refine S_nil ?_
  refine E_then ?_
  refine C_region ?_
  refine S_v (wd k36) ?_
  refine S_v (wd k47) ?_
  obtain ⟨x48, hx48, lx48⟩ : ∃ q, q = (k36 + k47) % 18446744073709551616 ∧ q < 18446744073709551616 := ⟨_, rfl, Nat.mod_lt _ (by decide)⟩
  refine S_val (wd x48) (by kernel_rfl) (fun _ _ => fv (v := .int .u64 (IntKind.u64.wrap (((k36 : Nat) : Int) + ((k47 : Nat) : Int)))) ((vint (hx48 ▸ u_add k36 k47))) (by kernel_rfl)) ?_
  refine S_v (pt b4 4) ?_
  refine S_do (by kernel_rfl) (st1 (v := wd x48) (L' := [⟨b4, [wd x40, wd x42, wd x44, wd x46, wd x48], 30⟩, ⟨b3, [.int .u64 0, .int .u64 0, .int .u64 0, .int .u64 0], 34⟩, ⟨b2, [wd (lb b 0), wd (lb b 1), wd (lb b 2), wd (lb b 3)], 34⟩, ⟨b1, [wd (lb a 0), wd (lb a 1), wd (lb a 2), wd (lb a 3)], 34⟩]) 0 b4 4 [wd x40, wd x42, wd x44, wd x46, wd x35] 30 rfl (by kernel_rfl) (by kernel_rfl) Tryd.sizeOf29 (by rfl) (by kernel_rfl) (by simp) (by kernel_rfl)) ?_
  refine S_nil ?_
  refine E_inblock ?_
  refine E_then ?_
  refine C_region ?_
  refine S_v (.int .i64 2) ?_
  refine S_v (.int .i64 2) ?_
  refine S_nil ?_
  refine E_rounds ?_
  refine R_succ ?_
  refine C_forget (fun g => ⟨#[g 0, g 1, pt b1 0, pt b2 0, pt b3 0, pt b4 0, g 6, g 7, g 8, g 9, g 10, g 11, g 12, .int .i64 2, g 14, g 15, g 16, g 17, g 18, g 19, g 20, g 21, g 22, g 23, g 24, g 25, g 26, g 27, g 28, g 29, g 30, g 31, g 32, g 33, g 34, g 35, g 36, g 37, g 38, g 39, g 40, g 41, g 42, g 43, g 44, g 45, g 46, g 47, g 48, g 49, g 50, g 51, g 52, g 53, g 54, g 55, g 56, g 57, g 58, g 59, g 60, g 61, g 62, g 63, g 64, g 65, g 66, g 67, g 68, g 69, g 70, g 71, g 72, g 73, g 74, g 75, g 76, g 77, g 78, g 79, g 80, g 81, g 82, g 83, g 84, g 85, g 86, g 87, g 88, g 89, g 90, g 91, g 92, g 93, g 94, g 95, g 96, g 97, g 98, g 99, g 100], []⟩) (by kernel_rfl) ?_
  intro g
  have R1 := mround (a0 := lb a 0) (a1 := lb a 1) (a2 := lb a 2) (a3 := lb a 3) (b := lb b 1) (t0 := x18) (t1 := x20) (t2 := x22) (t3 := x24) (t4 := x26) lx38 ex27 ex29 ex31 ex33 hx35 hk36 hx37 ex38 ex40 ex42 ex44 hx46 hk47 hx48 ok36 ok47
  refine C_seq ?_
  refine C_region ?_
  refine S_v (.bool true) ?_
  refine S_nil ?_
  refine E_then ?_
  refine C_seq ?_
  refine C_true (by kernel_rfl) ?_
  refine C_skip ?_
  refine E_then ?_
  refine C_seq ?_
  refine C_block ?_
  refine C_seq ?_
  refine C_region ?_
  refine S_v (.int .i64 2) ?_
  refine S_v (.int .i64 2) ?_
  refine S_nil ?_
  refine E_then ?_
  refine C_seq ?_
  refine C_region ?_
  refine S_v (.int .u64 0) ?_
  refine S_v (.int .u64 0) ?_
  refine S_nil ?_
  refine E_then ?_
  refine C_seq ?_
  refine C_seq ?_
  refine C_region ?_
  refine S_v (.int .i64 0) ?_
  refine S_nil ?_
  refine E_then ?_
  refine C_block ?_
  refine C_unroll 5 ?_
  refine R_succ ?_
  refine C_forget (fun g => ⟨#[g 0, g 1, pt b1 0, pt b2 0, pt b3 0, pt b4 0, .int .i64 2, .int .u64 0, g 8, g 9, g 10, g 11, g 12, .int .i64 2, g 14, g 15, .int .i64 0, g 17, g 18, g 19, g 20, g 21, g 22, g 23, g 24, g 25, g 26, g 27, g 28, g 29, g 30, g 31, g 32, g 33, g 34, g 35, g 36, g 37, g 38, g 39, g 40, g 41, g 42, g 43, g 44, g 45, g 46, g 47, g 48, g 49, g 50, g 51, g 52, g 53, g 54, g 55, g 56, g 57, g 58, g 59, g 60, g 61, g 62, g 63, g 64, g 65, g 66, g 67, g 68, g 69, g 70, g 71, g 72, g 73, g 74, g 75, g 76, g 77, g 78, g 79, g 80, g 81, g 82, g 83, g 84, g 85, g 86, g 87, g 88, g 89, g 90, g 91, g 92, g 93, g 94, g 95, g 96, g 97, g 98, g 99, g 100], []⟩) (by kernel_rfl) ?_
  intro g
  refine C_seq ?_
  refine C_region ?_
  refine S_v (.bool true) ?_
  refine S_nil ?_
  refine E_then ?_
  refine C_seq ?_
  refine C_true (by kernel_rfl) ?_
  refine C_skip ?_
  refine E_then ?_
  refine C_seq ?_
  refine C_block ?_
  refine C_seq ?_
  refine C_region ?_
  refine S_v (.int .i64 0) ?_
  refine S_v (.int .i64 0) ?_
  refine S_nil ?_
  refine E_then ?_
  refine C_drawn [.pure, .pure, .pure, .held, .pure, .pure, .held, .pure, .pure, .held, .pure, .held, .pure, .pure, .pure, .pure, .eff, .pure] (by kernel_rfl) (by kernel_rfl) ?_
  refine D_v (.int .i64 0) ?_
  refine D_v (.int .i64 0) ?_
  refine D_v (pt b1 0) ?_
  refine D_held (wd (lb a 0)) (by kernel_rfl) (ld1 3 b1 0 [wd (lb a 0), wd (lb a 1), wd (lb a 2), wd (lb a 3)] 34 rfl (by kernel_rfl) Tryd.isAgg29 (by kernel_rfl) (by kernel_rfl)) ?_
  refine D_v (.int .i64 2) ?_
  refine D_v (pt b2 2) ?_
  refine D_held (wd (lb b 2)) (by kernel_rfl) (ld1 2 b2 2 [wd (lb b 0), wd (lb b 1), wd (lb b 2), wd (lb b 3)] 34 rfl (by kernel_rfl) Tryd.isAgg29 (by kernel_rfl) (by kernel_rfl)) ?_
  refine D_v (.int .i64 0) ?_
  refine D_v (pt b4 0) ?_
  refine D_held (wd x40) (by kernel_rfl) (ld1 0 b4 0 [wd x40, wd x42, wd x44, wd x46, wd x48] 30 rfl (by kernel_rfl) Tryd.isAgg29 (by kernel_rfl) (by kernel_rfl)) ?_
  refine D_v (.int .u64 0) ?_
  obtain ⟨x49, c50, ex49, lx49, lc50, px49⟩ := into_ex (lb a 0) (lb b 2) x40 0 (lb_lt a 0) (lb_lt b 2) lx40 (by decide)
  refine D_pure (v := .tuple #[wd x49, wd c50]) (by kernel_rfl) px49 (fun _ => by kernel_rfl) ?_
  refine D_v (.tuple #[wd x49, wd c50]) ?_
  refine D_v (wd x49) ?_
  refine D_v (wd c50) ?_
  refine D_v (pt b4 0) ?_
  refine D_do (by kernel_rfl) (st1 (v := wd x49) (L' := [⟨b4, [wd x49, wd x42, wd x44, wd x46, wd x48], 30⟩, ⟨b3, [.int .u64 0, .int .u64 0, .int .u64 0, .int .u64 0], 34⟩, ⟨b2, [wd (lb b 0), wd (lb b 1), wd (lb b 2), wd (lb b 3)], 34⟩, ⟨b1, [wd (lb a 0), wd (lb a 1), wd (lb a 2), wd (lb a 3)], 34⟩]) 0 b4 0 [wd x40, wd x42, wd x44, wd x46, wd x48] 30 rfl (by kernel_rfl) (by kernel_rfl) Tryd.sizeOf29 (by rfl) (by kernel_rfl) (by simp) (by kernel_rfl)) ?_
  refine D_v (wd c50) ?_
  refine D_nil ?_
  refine E_inblock ?_
  refine E_then ?_
  refine C_region ?_
  refine S_v (.int .i64 1) ?_
  refine S_v (.int .i64 1) ?_
  refine S_nil ?_
  refine E_rounds ?_
  refine R_succ ?_
  refine C_forget (fun g => ⟨#[g 0, g 1, pt b1 0, pt b2 0, pt b3 0, pt b4 0, .int .i64 2, wd c50, g 8, g 9, g 10, g 11, g 12, .int .i64 2, g 14, g 15, .int .i64 1, g 17, g 18, g 19, g 20, g 21, g 22, g 23, g 24, g 25, g 26, g 27, g 28, g 29, g 30, g 31, g 32, g 33, g 34, g 35, g 36, g 37, g 38, g 39, g 40, g 41, g 42, g 43, g 44, g 45, g 46, g 47, g 48, g 49, g 50, g 51, g 52, g 53, g 54, g 55, g 56, g 57, g 58, g 59, g 60, g 61, g 62, g 63, g 64, g 65, g 66, g 67, g 68, g 69, g 70, g 71, g 72, g 73, g 74, g 75, g 76, g 77, g 78, g 79, g 80, g 81, g 82, g 83, g 84, g 85, g 86, g 87, g 88, g 89, g 90, g 91, g 92, g 93, g 94, g 95, g 96, g 97, g 98, g 99, g 100], []⟩) (by kernel_rfl) ?_
  intro g
  refine C_seq ?_
  refine C_region ?_
  refine S_v (.bool true) ?_
  refine S_nil ?_
  refine E_then ?_
  refine C_seq ?_
  refine C_true (by kernel_rfl) ?_
  refine C_skip ?_
  refine E_then ?_
  refine C_seq ?_
  refine C_block ?_
  refine C_seq ?_
  refine C_region ?_
  refine S_v (.int .i64 1) ?_
  refine S_v (.int .i64 1) ?_
  refine S_nil ?_
  refine E_then ?_
  refine C_drawn [.pure, .pure, .pure, .held, .pure, .pure, .held, .pure, .pure, .held, .pure, .held, .pure, .pure, .pure, .pure, .eff, .pure] (by kernel_rfl) (by kernel_rfl) ?_
  refine D_v (.int .i64 1) ?_
  refine D_v (.int .i64 1) ?_
  refine D_v (pt b1 1) ?_
  refine D_held (wd (lb a 1)) (by kernel_rfl) (ld1 3 b1 1 [wd (lb a 0), wd (lb a 1), wd (lb a 2), wd (lb a 3)] 34 rfl (by kernel_rfl) Tryd.isAgg29 (by kernel_rfl) (by kernel_rfl)) ?_
  refine D_v (.int .i64 2) ?_
  refine D_v (pt b2 2) ?_
  refine D_held (wd (lb b 2)) (by kernel_rfl) (ld1 2 b2 2 [wd (lb b 0), wd (lb b 1), wd (lb b 2), wd (lb b 3)] 34 rfl (by kernel_rfl) Tryd.isAgg29 (by kernel_rfl) (by kernel_rfl)) ?_
  refine D_v (.int .i64 1) ?_
  refine D_v (pt b4 1) ?_
  refine D_held (wd x42) (by kernel_rfl) (ld1 0 b4 1 [wd x49, wd x42, wd x44, wd x46, wd x48] 30 rfl (by kernel_rfl) Tryd.isAgg29 (by kernel_rfl) (by kernel_rfl)) ?_
  refine D_v (wd c50) ?_
  obtain ⟨x51, c52, ex51, lx51, lc52, px51⟩ := into_ex (lb a 1) (lb b 2) x42 c50 (lb_lt a 1) (lb_lt b 2) lx42 lc50
  refine D_pure (v := .tuple #[wd x51, wd c52]) (by kernel_rfl) px51 (fun _ => by kernel_rfl) ?_
  refine D_v (.tuple #[wd x51, wd c52]) ?_
  refine D_v (wd x51) ?_
  refine D_v (wd c52) ?_
  refine D_v (pt b4 1) ?_
  refine D_do (by kernel_rfl) (st1 (v := wd x51) (L' := [⟨b4, [wd x49, wd x51, wd x44, wd x46, wd x48], 30⟩, ⟨b3, [.int .u64 0, .int .u64 0, .int .u64 0, .int .u64 0], 34⟩, ⟨b2, [wd (lb b 0), wd (lb b 1), wd (lb b 2), wd (lb b 3)], 34⟩, ⟨b1, [wd (lb a 0), wd (lb a 1), wd (lb a 2), wd (lb a 3)], 34⟩]) 0 b4 1 [wd x49, wd x42, wd x44, wd x46, wd x48] 30 rfl (by kernel_rfl) (by kernel_rfl) Tryd.sizeOf29 (by rfl) (by kernel_rfl) (by simp) (by kernel_rfl)) ?_
  refine D_v (wd c52) ?_
  refine D_nil ?_
  refine E_inblock ?_
  refine E_then ?_
  refine C_region ?_
  refine S_v (.int .i64 2) ?_
  refine S_v (.int .i64 2) ?_
  refine S_nil ?_
  refine E_rounds ?_
  refine R_succ ?_
  refine C_forget (fun g => ⟨#[g 0, g 1, pt b1 0, pt b2 0, pt b3 0, pt b4 0, .int .i64 2, wd c52, g 8, g 9, g 10, g 11, g 12, .int .i64 2, g 14, g 15, .int .i64 2, g 17, g 18, g 19, g 20, g 21, g 22, g 23, g 24, g 25, g 26, g 27, g 28, g 29, g 30, g 31, g 32, g 33, g 34, g 35, g 36, g 37, g 38, g 39, g 40, g 41, g 42, g 43, g 44, g 45, g 46, g 47, g 48, g 49, g 50, g 51, g 52, g 53, g 54, g 55, g 56, g 57, g 58, g 59, g 60, g 61, g 62, g 63, g 64, g 65, g 66, g 67, g 68, g 69, g 70, g 71, g 72, g 73, g 74, g 75, g 76, g 77, g 78, g 79, g 80, g 81, g 82, g 83, g 84, g 85, g 86, g 87, g 88, g 89, g 90, g 91, g 92, g 93, g 94, g 95, g 96, g 97, g 98, g 99, g 100], []⟩) (by kernel_rfl) ?_
  intro g
  refine C_seq ?_
  refine C_region ?_
  refine S_v (.bool true) ?_
  refine S_nil ?_
  refine E_then ?_
  refine C_seq ?_
  refine C_true (by kernel_rfl) ?_
  refine C_skip ?_
  refine E_then ?_
  refine C_seq ?_
  refine C_block ?_
  refine C_seq ?_
  refine C_region ?_
  refine S_v (.int .i64 2) ?_
  refine S_v (.int .i64 2) ?_
  refine S_nil ?_
  refine E_then ?_
  refine C_drawn [.pure, .pure, .pure, .held, .pure, .pure, .held, .pure, .pure, .held, .pure, .held, .pure, .pure, .pure, .pure, .eff, .pure] (by kernel_rfl) (by kernel_rfl) ?_
  refine D_v (.int .i64 2) ?_
  refine D_v (.int .i64 2) ?_
  refine D_v (pt b1 2) ?_
  refine D_held (wd (lb a 2)) (by kernel_rfl) (ld1 3 b1 2 [wd (lb a 0), wd (lb a 1), wd (lb a 2), wd (lb a 3)] 34 rfl (by kernel_rfl) Tryd.isAgg29 (by kernel_rfl) (by kernel_rfl)) ?_
  refine D_v (.int .i64 2) ?_
  refine D_v (pt b2 2) ?_
  refine D_held (wd (lb b 2)) (by kernel_rfl) (ld1 2 b2 2 [wd (lb b 0), wd (lb b 1), wd (lb b 2), wd (lb b 3)] 34 rfl (by kernel_rfl) Tryd.isAgg29 (by kernel_rfl) (by kernel_rfl)) ?_
  refine D_v (.int .i64 2) ?_
  refine D_v (pt b4 2) ?_
  refine D_held (wd x44) (by kernel_rfl) (ld1 0 b4 2 [wd x49, wd x51, wd x44, wd x46, wd x48] 30 rfl (by kernel_rfl) Tryd.isAgg29 (by kernel_rfl) (by kernel_rfl)) ?_
  refine D_v (wd c52) ?_
  obtain ⟨x53, c54, ex53, lx53, lc54, px53⟩ := into_ex (lb a 2) (lb b 2) x44 c52 (lb_lt a 2) (lb_lt b 2) lx44 lc52
  refine D_pure (v := .tuple #[wd x53, wd c54]) (by kernel_rfl) px53 (fun _ => by kernel_rfl) ?_
  refine D_v (.tuple #[wd x53, wd c54]) ?_
  refine D_v (wd x53) ?_
  refine D_v (wd c54) ?_
  refine D_v (pt b4 2) ?_
  refine D_do (by kernel_rfl) (st1 (v := wd x53) (L' := [⟨b4, [wd x49, wd x51, wd x53, wd x46, wd x48], 30⟩, ⟨b3, [.int .u64 0, .int .u64 0, .int .u64 0, .int .u64 0], 34⟩, ⟨b2, [wd (lb b 0), wd (lb b 1), wd (lb b 2), wd (lb b 3)], 34⟩, ⟨b1, [wd (lb a 0), wd (lb a 1), wd (lb a 2), wd (lb a 3)], 34⟩]) 0 b4 2 [wd x49, wd x51, wd x44, wd x46, wd x48] 30 rfl (by kernel_rfl) (by kernel_rfl) Tryd.sizeOf29 (by rfl) (by kernel_rfl) (by simp) (by kernel_rfl)) ?_
  refine D_v (wd c54) ?_
  refine D_nil ?_
  refine E_inblock ?_
  refine E_then ?_
  refine C_region ?_
  refine S_v (.int .i64 3) ?_
  refine S_v (.int .i64 3) ?_
  refine S_nil ?_
  refine E_rounds ?_
  refine R_succ ?_
  refine C_forget (fun g => ⟨#[g 0, g 1, pt b1 0, pt b2 0, pt b3 0, pt b4 0, .int .i64 2, wd c54, g 8, g 9, g 10, g 11, g 12, .int .i64 2, g 14, g 15, .int .i64 3, g 17, g 18, g 19, g 20, g 21, g 22, g 23, g 24, g 25, g 26, g 27, g 28, g 29, g 30, g 31, g 32, g 33, g 34, g 35, g 36, g 37, g 38, g 39, g 40, g 41, g 42, g 43, g 44, g 45, g 46, g 47, g 48, g 49, g 50, g 51, g 52, g 53, g 54, g 55, g 56, g 57, g 58, g 59, g 60, g 61, g 62, g 63, g 64, g 65, g 66, g 67, g 68, g 69, g 70, g 71, g 72, g 73, g 74, g 75, g 76, g 77, g 78, g 79, g 80, g 81, g 82, g 83, g 84, g 85, g 86, g 87, g 88, g 89, g 90, g 91, g 92, g 93, g 94, g 95, g 96, g 97, g 98, g 99, g 100], []⟩) (by kernel_rfl) ?_
  intro g
  refine C_seq ?_
  refine C_region ?_
  refine S_v (.bool true) ?_
  refine S_nil ?_
  refine E_then ?_
  refine C_seq ?_
  refine C_true (by kernel_rfl) ?_
  refine C_skip ?_
  refine E_then ?_
  refine C_seq ?_
  refine C_block ?_
  refine C_seq ?_
  refine C_region ?_
  refine S_v (.int .i64 3) ?_
  refine S_v (.int .i64 3) ?_
  refine S_nil ?_
  refine E_then ?_
  refine C_drawn [.pure, .pure, .pure, .held, .pure, .pure, .held, .pure, .pure, .held, .pure, .held, .pure, .pure, .pure, .pure, .eff, .pure] (by kernel_rfl) (by kernel_rfl) ?_
  refine D_v (.int .i64 3) ?_
  refine D_v (.int .i64 3) ?_
  refine D_v (pt b1 3) ?_
  refine D_held (wd (lb a 3)) (by kernel_rfl) (ld1 3 b1 3 [wd (lb a 0), wd (lb a 1), wd (lb a 2), wd (lb a 3)] 34 rfl (by kernel_rfl) Tryd.isAgg29 (by kernel_rfl) (by kernel_rfl)) ?_
  refine D_v (.int .i64 2) ?_
  refine D_v (pt b2 2) ?_
  refine D_held (wd (lb b 2)) (by kernel_rfl) (ld1 2 b2 2 [wd (lb b 0), wd (lb b 1), wd (lb b 2), wd (lb b 3)] 34 rfl (by kernel_rfl) Tryd.isAgg29 (by kernel_rfl) (by kernel_rfl)) ?_
  refine D_v (.int .i64 3) ?_
  refine D_v (pt b4 3) ?_
  refine D_held (wd x46) (by kernel_rfl) (ld1 0 b4 3 [wd x49, wd x51, wd x53, wd x46, wd x48] 30 rfl (by kernel_rfl) Tryd.isAgg29 (by kernel_rfl) (by kernel_rfl)) ?_
  refine D_v (wd c54) ?_
  obtain ⟨x55, c56, ex55, lx55, lc56, px55⟩ := into_ex (lb a 3) (lb b 2) x46 c54 (lb_lt a 3) (lb_lt b 2) lx46 lc54
  refine D_pure (v := .tuple #[wd x55, wd c56]) (by kernel_rfl) px55 (fun _ => by kernel_rfl) ?_
  refine D_v (.tuple #[wd x55, wd c56]) ?_
  refine D_v (wd x55) ?_
  refine D_v (wd c56) ?_
  refine D_v (pt b4 3) ?_
  refine D_do (by kernel_rfl) (st1 (v := wd x55) (L' := [⟨b4, [wd x49, wd x51, wd x53, wd x55, wd x48], 30⟩, ⟨b3, [.int .u64 0, .int .u64 0, .int .u64 0, .int .u64 0], 34⟩, ⟨b2, [wd (lb b 0), wd (lb b 1), wd (lb b 2), wd (lb b 3)], 34⟩, ⟨b1, [wd (lb a 0), wd (lb a 1), wd (lb a 2), wd (lb a 3)], 34⟩]) 0 b4 3 [wd x49, wd x51, wd x53, wd x46, wd x48] 30 rfl (by kernel_rfl) (by kernel_rfl) Tryd.sizeOf29 (by rfl) (by kernel_rfl) (by simp) (by kernel_rfl)) ?_
  refine D_v (wd c56) ?_
  refine D_nil ?_
  refine E_inblock ?_
  refine E_then ?_
  refine C_region ?_
  refine S_v (.int .i64 4) ?_
  refine S_v (.int .i64 4) ?_
  refine S_nil ?_
  refine E_rounds ?_
  refine R_succ ?_
  refine C_forget (fun g => ⟨#[g 0, g 1, pt b1 0, pt b2 0, pt b3 0, pt b4 0, .int .i64 2, wd c56, g 8, g 9, g 10, g 11, g 12, .int .i64 2, g 14, g 15, .int .i64 4, g 17, g 18, g 19, g 20, g 21, g 22, g 23, g 24, g 25, g 26, g 27, g 28, g 29, g 30, g 31, g 32, g 33, g 34, g 35, g 36, g 37, g 38, g 39, g 40, g 41, g 42, g 43, g 44, g 45, g 46, g 47, g 48, g 49, g 50, g 51, g 52, g 53, g 54, g 55, g 56, g 57, g 58, g 59, g 60, g 61, g 62, g 63, g 64, g 65, g 66, g 67, g 68, g 69, g 70, g 71, g 72, g 73, g 74, g 75, g 76, g 77, g 78, g 79, g 80, g 81, g 82, g 83, g 84, g 85, g 86, g 87, g 88, g 89, g 90, g 91, g 92, g 93, g 94, g 95, g 96, g 97, g 98, g 99, g 100], []⟩) (by kernel_rfl) ?_
  intro g
  refine C_seq ?_
  refine C_region ?_
  refine S_v (.bool false) ?_
  refine S_nil ?_
  refine E_then ?_
  refine C_seq ?_
  refine C_false (by kernel_rfl) ?_
  refine C_exit ?_
  refine E_pass_exit ?_
  refine E_pass_exit ?_
  refine E_outblock ?_
  refine E_then ?_
  refine C_seq ?_
  refine C_region ?_
  refine S_v (pt b4 4) ?_
  refine S_val (wd x48) (by kernel_rfl) (ld1 0 b4 4 [wd x49, wd x51, wd x53, wd x55, wd x48] 30 rfl (by kernel_rfl) Tryd.isAgg29 (by kernel_rfl) (by kernel_rfl)) ?_
  refine S_v (wd c56) ?_
  obtain ⟨x57, k58, ex57, lx57, ok58, hx57, hk58⟩ := addc_ex x48 c56 0 lx48 lc56 (by decide)
  refine S_val (.tuple #[wd x57, wd k58]) (by kernel_rfl) (fun w _ => fv (v := .tuple #[wd ((x48 + c56 + 0) % 18446744073709551616), wd ((x48 + c56 + 0) / 18446744073709551616)]) (by rw [hx57, hk58]) ((clv (x := .func 52) rfl (by kernel_rfl) (by kernel_rfl) (by kernel_rfl) (x_add x48 c56 0 (by decide))) w)) ?_
  refine S_v (.tuple #[wd x57, wd k58]) ?_
  refine S_v (wd x57) ?_
  refine S_v (wd k58) ?_
  refine S_v (pt b4 4) ?_
  refine S_do (by kernel_rfl) (st1 (v := wd x57) (L' := [⟨b4, [wd x49, wd x51, wd x53, wd x55, wd x57], 30⟩, ⟨b3, [.int .u64 0, .int .u64 0, .int .u64 0, .int .u64 0], 34⟩, ⟨b2, [wd (lb b 0), wd (lb b 1), wd (lb b 2), wd (lb b 3)], 34⟩, ⟨b1, [wd (lb a 0), wd (lb a 1), wd (lb a 2), wd (lb a 3)], 34⟩]) 0 b4 4 [wd x49, wd x51, wd x53, wd x55, wd x48] 30 rfl (by kernel_rfl) (by kernel_rfl) Tryd.sizeOf29 (by rfl) (by kernel_rfl) (by simp) (by kernel_rfl)) ?_
  refine S_v (wd k58) ?_
  refine S_nil ?_
  refine E_then ?_
  refine C_seq ?_
  refine C_region ?_
  refine S_v (wd k58) ?_
  refine S_v (wd k58) ?_
  refine S_nil ?_
  refine E_then ?_
  refine C_seq ?_
  refine C_region ?_
  refine S_v (pt b4 0) ?_
  refine S_val (wd x49) (by kernel_rfl) (ld1 0 b4 0 [wd x49, wd x51, wd x53, wd x55, wd x57] 30 rfl (by kernel_rfl) Tryd.isAgg29 (by kernel_rfl) (by kernel_rfl)) ?_
  obtain ⟨x59, hx59, lx59⟩ : ∃ q, q = (x49 * 15183074304973897243) % 18446744073709551616 ∧ q < 18446744073709551616 := ⟨_, rfl, Nat.mod_lt _ (by decide)⟩
  refine S_val (wd x59) (by kernel_rfl) (fun _ _ => fv (v := .int .u64 (IntKind.u64.wrap (((x49 : Nat) : Int) * 15183074304973897243))) ((vint (hx59 ▸ u_mul x49 15183074304973897243))) (by kernel_rfl)) ?_
  refine S_v (wd x59) ?_
  refine S_nil ?_
  refine E_then ?_
  refine C_seq ?_
  refine C_region ?_
  refine S_v (wd x59) ?_
  refine S_v (pt 0 0) ?_
  refine S_v (pt 0 0) ?_
  refine S_val (.int .u64 6346243789798364141) (by kernel_rfl) (ld1o (v := .int .u64 6346243789798364141) 0 0 rfl (by kernel_rfl) Tryd.isAgg29 (hT.at 0 (by kernel_rfl))) ?_
  refine S_v (pt b4 0) ?_
  refine S_val (wd x49) (by kernel_rfl) (ld1 0 b4 0 [wd x49, wd x51, wd x53, wd x55, wd x57] 30 rfl (by kernel_rfl) Tryd.isAgg29 (by kernel_rfl) (by kernel_rfl)) ?_
  obtain ⟨x60, c61, ex60, lx60, lc61, px60⟩ := into_ex x59 6346243789798364141 x49 0 lx59 (by decide) lx49 (by decide)
  refine S_pure (v := .tuple #[wd x60, wd c61]) (by kernel_rfl) px60 (fun _ => by kernel_rfl) ?_
  refine S_v (.tuple #[wd x60, wd c61]) ?_
  refine S_v (wd x60) ?_
  refine S_v (wd c61) ?_
  refine S_v (wd c61) ?_
  refine S_nil ?_
  refine E_then ?_
  refine C_seq ?_
  refine C_seq ?_
  refine C_region ?_
  refine S_v (.int .i64 1) ?_
  refine S_nil ?_
  refine E_then ?_
  refine C_block ?_
  refine C_unroll 4 ?_
  refine R_succ ?_
  refine C_forget (fun g => ⟨#[g 0, g 1, pt b1 0, pt b2 0, pt b3 0, pt b4 0, g 6, wd c61, g 8, g 9, wd k58, wd x59, .int .i64 1, .int .i64 2, g 14, g 15, g 16, g 17, g 18, g 19, g 20, g 21, g 22, g 23, g 24, g 25, g 26, g 27, g 28, g 29, g 30, g 31, g 32, g 33, g 34, g 35, g 36, g 37, g 38, g 39, g 40, g 41, g 42, g 43, g 44, g 45, g 46, g 47, g 48, g 49, g 50, g 51, g 52, g 53, g 54, g 55, g 56, g 57, g 58, g 59, g 60, g 61, g 62, g 63, g 64, g 65, g 66, g 67, g 68, g 69, g 70, g 71, g 72, g 73, g 74, g 75, g 76, g 77, g 78, g 79, g 80, g 81, g 82, g 83, g 84, g 85, g 86, g 87, g 88, g 89, g 90, g 91, g 92, g 93, g 94, g 95, g 96, g 97, g 98, g 99, g 100], []⟩) (by kernel_rfl) ?_
  intro g
  refine C_seq ?_
  refine C_seq ?_
  refine C_region ?_
  refine S_v (.int .i64 1) ?_
  refine S_v (.bool true) ?_
  refine S_nil ?_
  refine E_then ?_
  refine C_true (by kernel_rfl) ?_
  refine C_skip ?_
  refine E_then ?_
  refine C_seq ?_
  refine C_block ?_
  refine C_drawn [.pure, .pure, .pure, .pure, .pure, .pure, .held, .pure, .pure, .held, .pure, .held, .pure, .pure, .pure, .pure, .eff, .pure] (by kernel_rfl) (by kernel_rfl) ?_
  refine D_v (.int .i64 1) ?_
  refine D_v (.int .i64 0) ?_
  refine D_v (wd x59) ?_
  refine D_v (.int .i64 1) ?_
  refine D_v (pt 0 0) ?_
  refine D_v (pt 0 1) ?_
  refine D_held (.int .u64 1503914060200516822) (by kernel_rfl) (ld1o (v := .int .u64 1503914060200516822) 0 1 rfl (by kernel_rfl) Tryd.isAgg29 (hT.at 1 (by kernel_rfl))) ?_
  refine D_v (.int .i64 1) ?_
  refine D_v (pt b4 1) ?_
  refine D_held (wd x51) (by kernel_rfl) (ld1 0 b4 1 [wd x49, wd x51, wd x53, wd x55, wd x57] 30 rfl (by kernel_rfl) Tryd.isAgg29 (by kernel_rfl) (by kernel_rfl)) ?_
  refine D_v (wd c61) ?_
  obtain ⟨x62, c63, ex62, lx62, lc63, px62⟩ := into_ex x59 1503914060200516822 x51 c61 lx59 (by decide) lx51 lc61
  refine D_pure (v := .tuple #[wd x62, wd c63]) (by kernel_rfl) px62 (fun _ => by kernel_rfl) ?_
  refine D_v (.tuple #[wd x62, wd c63]) ?_
  refine D_v (wd x62) ?_
  refine D_v (wd c63) ?_
  refine D_v (pt b4 0) ?_
  refine D_do (by kernel_rfl) (st1 (v := wd x62) (L' := [⟨b4, [wd x62, wd x51, wd x53, wd x55, wd x57], 30⟩, ⟨b3, [.int .u64 0, .int .u64 0, .int .u64 0, .int .u64 0], 34⟩, ⟨b2, [wd (lb b 0), wd (lb b 1), wd (lb b 2), wd (lb b 3)], 34⟩, ⟨b1, [wd (lb a 0), wd (lb a 1), wd (lb a 2), wd (lb a 3)], 34⟩]) 0 b4 0 [wd x49, wd x51, wd x53, wd x55, wd x57] 30 rfl (by kernel_rfl) (by kernel_rfl) Tryd.sizeOf29 (by rfl) (by kernel_rfl) (by simp) (by kernel_rfl)) ?_
  refine D_v (wd c63) ?_
  refine D_nil ?_
  refine E_inblock ?_
  refine E_then ?_
  refine C_region ?_
  refine S_v (.int .i64 1) ?_
  refine S_v (.int .i64 2) ?_
  refine S_v (.int .i64 2) ?_
  refine S_nil ?_
  refine E_rounds ?_
  refine R_succ ?_
  refine C_forget (fun g => ⟨#[g 0, g 1, pt b1 0, pt b2 0, pt b3 0, pt b4 0, g 6, wd c63, g 8, g 9, wd k58, wd x59, .int .i64 2, .int .i64 2, g 14, g 15, g 16, g 17, g 18, g 19, g 20, g 21, g 22, g 23, g 24, g 25, g 26, g 27, g 28, g 29, g 30, g 31, g 32, g 33, g 34, g 35, g 36, g 37, g 38, g 39, g 40, g 41, g 42, g 43, g 44, g 45, g 46, g 47, g 48, g 49, g 50, g 51, g 52, g 53, g 54, g 55, g 56, g 57, g 58, g 59, g 60, g 61, g 62, g 63, g 64, g 65, g 66, g 67, g 68, g 69, g 70, g 71, g 72, g 73, g 74, g 75, g 76, g 77, g 78, g 79, g 80, g 81, g 82, g 83, g 84, g 85, g 86, g 87, g 88, g 89, g 90, g 91, g 92, g 93, g 94, g 95, g 96, g 97, g 98, g 99, g 100], []⟩) (by kernel_rfl) ?_
  intro g
  refine C_seq ?_
  refine C_seq ?_
  refine C_region ?_
  refine S_v (.int .i64 2) ?_
  refine S_v (.bool true) ?_
  refine S_nil ?_
  refine E_then ?_
  refine C_true (by kernel_rfl) ?_
  refine C_skip ?_
  refine E_then ?_
  refine C_seq ?_
  refine C_block ?_
  refine C_drawn [.pure, .pure, .pure, .pure, .pure, .pure, .held, .pure, .pure, .held, .pure, .held, .pure, .pure, .pure, .pure, .eff, .pure] (by kernel_rfl) (by kernel_rfl) ?_
  refine D_v (.int .i64 2) ?_
  refine D_v (.int .i64 1) ?_
  refine D_v (wd x59) ?_
  refine D_v (.int .i64 2) ?_
  refine D_v (pt 0 0) ?_
  refine D_v (pt 0 2) ?_
  refine D_held (.int .u64 0) (by kernel_rfl) (ld1o (v := .int .u64 0) 0 2 rfl (by kernel_rfl) Tryd.isAgg29 (hT.at 2 (by kernel_rfl))) ?_
  refine D_v (.int .i64 2) ?_
  refine D_v (pt b4 2) ?_
  refine D_held (wd x53) (by kernel_rfl) (ld1 0 b4 2 [wd x62, wd x51, wd x53, wd x55, wd x57] 30 rfl (by kernel_rfl) Tryd.isAgg29 (by kernel_rfl) (by kernel_rfl)) ?_
  refine D_v (wd c63) ?_
  obtain ⟨x64, c65, ex64, lx64, lc65, px64⟩ := into_ex x59 0 x53 c63 lx59 (by decide) lx53 lc63
  refine D_pure (v := .tuple #[wd x64, wd c65]) (by kernel_rfl) px64 (fun _ => by kernel_rfl) ?_
  refine D_v (.tuple #[wd x64, wd c65]) ?_
  refine D_v (wd x64) ?_
  refine D_v (wd c65) ?_
  refine D_v (pt b4 1) ?_
  refine D_do (by kernel_rfl) (st1 (v := wd x64) (L' := [⟨b4, [wd x62, wd x64, wd x53, wd x55, wd x57], 30⟩, ⟨b3, [.int .u64 0, .int .u64 0, .int .u64 0, .int .u64 0], 34⟩, ⟨b2, [wd (lb b 0), wd (lb b 1), wd (lb b 2), wd (lb b 3)], 34⟩, ⟨b1, [wd (lb a 0), wd (lb a 1), wd (lb a 2), wd (lb a 3)], 34⟩]) 0 b4 1 [wd x62, wd x51, wd x53, wd x55, wd x57] 30 rfl (by kernel_rfl) (by kernel_rfl) Tryd.sizeOf29 (by rfl) (by kernel_rfl) (by simp) (by kernel_rfl)) ?_
  refine D_v (wd c65) ?_
  refine D_nil ?_
  refine E_inblock ?_
  refine E_then ?_
  refine C_region ?_
  refine S_v (.int .i64 2) ?_
  refine S_v (.int .i64 3) ?_
  refine S_v (.int .i64 3) ?_
  refine S_nil ?_
  refine E_rounds ?_
  refine R_succ ?_
  refine C_forget (fun g => ⟨#[g 0, g 1, pt b1 0, pt b2 0, pt b3 0, pt b4 0, g 6, wd c65, g 8, g 9, wd k58, wd x59, .int .i64 3, .int .i64 2, g 14, g 15, g 16, g 17, g 18, g 19, g 20, g 21, g 22, g 23, g 24, g 25, g 26, g 27, g 28, g 29, g 30, g 31, g 32, g 33, g 34, g 35, g 36, g 37, g 38, g 39, g 40, g 41, g 42, g 43, g 44, g 45, g 46, g 47, g 48, g 49, g 50, g 51, g 52, g 53, g 54, g 55, g 56, g 57, g 58, g 59, g 60, g 61, g 62, g 63, g 64, g 65, g 66, g 67, g 68, g 69, g 70, g 71, g 72, g 73, g 74, g 75, g 76, g 77, g 78, g 79, g 80, g 81, g 82, g 83, g 84, g 85, g 86, g 87, g 88, g 89, g 90, g 91, g 92, g 93, g 94, g 95, g 96, g 97, g 98, g 99, g 100], []⟩) (by kernel_rfl) ?_
  intro g
  refine C_seq ?_
  refine C_seq ?_
  refine C_region ?_
  refine S_v (.int .i64 3) ?_
  refine S_v (.bool true) ?_
  refine S_nil ?_
  refine E_then ?_
  refine C_true (by kernel_rfl) ?_
  refine C_skip ?_
  refine E_then ?_
  refine C_seq ?_
  refine C_block ?_
  refine C_drawn [.pure, .pure, .pure, .pure, .pure, .pure, .held, .pure, .pure, .held, .pure, .held, .pure, .pure, .pure, .pure, .eff, .pure] (by kernel_rfl) (by kernel_rfl) ?_
  refine D_v (.int .i64 3) ?_
  refine D_v (.int .i64 2) ?_
  refine D_v (wd x59) ?_
  refine D_v (.int .i64 3) ?_
  refine D_v (pt 0 0) ?_
  refine D_v (pt 0 3) ?_
  refine D_held (.int .u64 1152921504606846976) (by kernel_rfl) (ld1o (v := .int .u64 1152921504606846976) 0 3 rfl (by kernel_rfl) Tryd.isAgg29 (hT.at 3 (by kernel_rfl))) ?_
  refine D_v (.int .i64 3) ?_
  refine D_v (pt b4 3) ?_
  refine D_held (wd x55) (by kernel_rfl) (ld1 0 b4 3 [wd x62, wd x64, wd x53, wd x55, wd x57] 30 rfl (by kernel_rfl) Tryd.isAgg29 (by kernel_rfl) (by kernel_rfl)) ?_
  refine D_v (wd c65) ?_
  obtain ⟨x66, c67, ex66, lx66, lc67, px66⟩ := into_ex x59 1152921504606846976 x55 c65 lx59 (by decide) lx55 lc65
  refine D_pure (v := .tuple #[wd x66, wd c67]) (by kernel_rfl) px66 (fun _ => by kernel_rfl) ?_
  refine D_v (.tuple #[wd x66, wd c67]) ?_
  refine D_v (wd x66) ?_
  refine D_v (wd c67) ?_
  refine D_v (pt b4 2) ?_
  refine D_do (by kernel_rfl) (st1 (v := wd x66) (L' := [⟨b4, [wd x62, wd x64, wd x66, wd x55, wd x57], 30⟩, ⟨b3, [.int .u64 0, .int .u64 0, .int .u64 0, .int .u64 0], 34⟩, ⟨b2, [wd (lb b 0), wd (lb b 1), wd (lb b 2), wd (lb b 3)], 34⟩, ⟨b1, [wd (lb a 0), wd (lb a 1), wd (lb a 2), wd (lb a 3)], 34⟩]) 0 b4 2 [wd x62, wd x64, wd x53, wd x55, wd x57] 30 rfl (by kernel_rfl) (by kernel_rfl) Tryd.sizeOf29 (by rfl) (by kernel_rfl) (by simp) (by kernel_rfl)) ?_
  refine D_v (wd c67) ?_
  refine D_nil ?_
  refine E_inblock ?_
  refine E_then ?_
  refine C_region ?_
  refine S_v (.int .i64 3) ?_
  refine S_v (.int .i64 4) ?_
  refine S_v (.int .i64 4) ?_
  refine S_nil ?_
  refine E_rounds ?_
  refine R_succ ?_
  refine C_forget (fun g => ⟨#[g 0, g 1, pt b1 0, pt b2 0, pt b3 0, pt b4 0, g 6, wd c67, g 8, g 9, wd k58, wd x59, .int .i64 4, .int .i64 2, g 14, g 15, g 16, g 17, g 18, g 19, g 20, g 21, g 22, g 23, g 24, g 25, g 26, g 27, g 28, g 29, g 30, g 31, g 32, g 33, g 34, g 35, g 36, g 37, g 38, g 39, g 40, g 41, g 42, g 43, g 44, g 45, g 46, g 47, g 48, g 49, g 50, g 51, g 52, g 53, g 54, g 55, g 56, g 57, g 58, g 59, g 60, g 61, g 62, g 63, g 64, g 65, g 66, g 67, g 68, g 69, g 70, g 71, g 72, g 73, g 74, g 75, g 76, g 77, g 78, g 79, g 80, g 81, g 82, g 83, g 84, g 85, g 86, g 87, g 88, g 89, g 90, g 91, g 92, g 93, g 94, g 95, g 96, g 97, g 98, g 99, g 100], []⟩) (by kernel_rfl) ?_
  intro g
  refine C_seq ?_
  refine C_seq ?_
  refine C_region ?_
  refine S_v (.int .i64 4) ?_
  refine S_v (.bool false) ?_
  refine S_nil ?_
  refine E_then ?_
  refine C_false (by kernel_rfl) ?_
  refine C_exit ?_
  refine E_pass_exit ?_
  refine E_pass_exit ?_
  refine E_outblock ?_
  refine E_then ?_
  refine C_seq ?_
  refine C_region ?_
  refine S_v (pt b4 4) ?_
  refine S_val (wd x57) (by kernel_rfl) (ld1 0 b4 4 [wd x62, wd x64, wd x66, wd x55, wd x57] 30 rfl (by kernel_rfl) Tryd.isAgg29 (by kernel_rfl) (by kernel_rfl)) ?_
  refine S_v (wd c67) ?_
  obtain ⟨x68, k69, ex68, lx68, ok69, hx68, hk69⟩ := addc_ex x57 c67 0 lx57 lc67 (by decide)
  refine S_val (.tuple #[wd x68, wd k69]) (by kernel_rfl) (fun w _ => fv (v := .tuple #[wd ((x57 + c67 + 0) % 18446744073709551616), wd ((x57 + c67 + 0) / 18446744073709551616)]) (by rw [hx68, hk69]) ((clv (x := .func 52) rfl (by kernel_rfl) (by kernel_rfl) (by kernel_rfl) (x_add x57 c67 0 (by decide))) w)) ?_
  refine S_v (.tuple #[wd x68, wd k69]) ?_
  refine S_v (wd x68) ?_
  refine S_v (wd k69) ?_
  refine S_v (pt b4 3) ?_
  refine S_do (by kernel_rfl) (st1 (v := wd x68) (L' := [⟨b4, [wd x62, wd x64, wd x66, wd x68, wd x57], 30⟩, ⟨b3, [.int .u64 0, .int .u64 0, .int .u64 0, .int .u64 0], 34⟩, ⟨b2, [wd (lb b 0), wd (lb b 1), wd (lb b 2), wd (lb b 3)], 34⟩, ⟨b1, [wd (lb a 0), wd (lb a 1), wd (lb a 2), wd (lb a 3)], 34⟩]) 0 b4 3 [wd x62, wd x64, wd x66, wd x55, wd x57] 30 rfl (by kernel_rfl) (by kernel_rfl) Tryd.sizeOf29 (by rfl) (by kernel_rfl) (by simp) (by kernel_rfl)) ?_
  refine S_v (wd k69) ?_
  refine S_nil ?_
  refine E_then ?_
  refine C_region ?_
  refine S_v (wd k58) ?_
  refine S_v (wd k69) ?_
  obtain ⟨x70, hx70, lx70⟩ : ∃ q, q = (k58 + k69) % 18446744073709551616 ∧ q < 18446744073709551616 := ⟨_, rfl, Nat.mod_lt _ (by decide)⟩
  refine S_val (wd x70) (by kernel_rfl) (fun _ _ => fv (v := .int .u64 (IntKind.u64.wrap (((k58 : Nat) : Int) + ((k69 : Nat) : Int)))) ((vint (hx70 ▸ u_add k58 k69))) (by kernel_rfl)) ?_
  refine S_v (pt b4 4) ?_
  refine S_do (by kernel_rfl) (st1 (v := wd x70) (L' := [⟨b4, [wd x62, wd x64, wd x66, wd x68, wd x70], 30⟩, ⟨b3, [.int .u64 0, .int .u64 0, .int .u64 0, .int .u64 0], 34⟩, ⟨b2, [wd (lb b 0), wd (lb b 1), wd (lb b 2), wd (lb b 3)], 34⟩, ⟨b1, [wd (lb a 0), wd (lb a 1), wd (lb a 2), wd (lb a 3)], 34⟩]) 0 b4 4 [wd x62, wd x64, wd x66, wd x68, wd x57] 30 rfl (by kernel_rfl) (by kernel_rfl) Tryd.sizeOf29 (by rfl) (by kernel_rfl) (by simp) (by kernel_rfl)) ?_
  refine S_nil ?_
  refine E_inblock ?_
  refine E_then ?_
  refine C_region ?_
  refine S_v (.int .i64 3) ?_
  refine S_v (.int .i64 3) ?_
  refine S_nil ?_
  refine E_rounds ?_
  refine R_succ ?_
  refine C_forget (fun g => ⟨#[g 0, g 1, pt b1 0, pt b2 0, pt b3 0, pt b4 0, g 6, g 7, g 8, g 9, g 10, g 11, g 12, .int .i64 3, g 14, g 15, g 16, g 17, g 18, g 19, g 20, g 21, g 22, g 23, g 24, g 25, g 26, g 27, g 28, g 29, g 30, g 31, g 32, g 33, g 34, g 35, g 36, g 37, g 38, g 39, g 40, g 41, g 42, g 43, g 44, g 45, g 46, g 47, g 48, g 49, g 50, g 51, g 52, g 53, g 54, g 55, g 56, g 57, g 58, g 59, g 60, g 61, g 62, g 63, g 64, g 65, g 66, g 67, g 68, g 69, g 70, g 71, g 72, g 73, g 74, g 75, g 76, g 77, g 78, g 79, g 80, g 81, g 82, g 83, g 84, g 85, g 86, g 87, g 88, g 89, g 90, g 91, g 92, g 93, g 94, g 95, g 96, g 97, g 98, g 99, g 100], []⟩) (by kernel_rfl) ?_
  intro g
  have R2 := mround (a0 := lb a 0) (a1 := lb a 1) (a2 := lb a 2) (a3 := lb a 3) (b := lb b 2) (t0 := x40) (t1 := x42) (t2 := x44) (t3 := x46) (t4 := x48) lx60 ex49 ex51 ex53 ex55 hx57 hk58 hx59 ex60 ex62 ex64 ex66 hx68 hk69 hx70 ok58 ok69
  refine C_seq ?_
  refine C_region ?_
  refine S_v (.bool true) ?_
  refine S_nil ?_
  refine E_then ?_
  refine C_seq ?_
  refine C_true (by kernel_rfl) ?_
  refine C_skip ?_
  refine E_then ?_
  refine C_seq ?_
  refine C_block ?_
  refine C_seq ?_
  refine C_region ?_
  refine S_v (.int .i64 3) ?_
  refine S_v (.int .i64 3) ?_
  refine S_nil ?_
  refine E_then ?_
  refine C_seq ?_
  refine C_region ?_
  refine S_v (.int .u64 0) ?_
  refine S_v (.int .u64 0) ?_
  refine S_nil ?_
  refine E_then ?_
  refine C_seq ?_
  refine C_seq ?_
  refine C_region ?_
  refine S_v (.int .i64 0) ?_
  refine S_nil ?_
  refine E_then ?_
  refine C_block ?_
  refine C_unroll 5 ?_
  refine R_succ ?_
  refine C_forget (fun g => ⟨#[g 0, g 1, pt b1 0, pt b2 0, pt b3 0, pt b4 0, .int .i64 3, .int .u64 0, g 8, g 9, g 10, g 11, g 12, .int .i64 3, g 14, g 15, .int .i64 0, g 17, g 18, g 19, g 20, g 21, g 22, g 23, g 24, g 25, g 26, g 27, g 28, g 29, g 30, g 31, g 32, g 33, g 34, g 35, g 36, g 37, g 38, g 39, g 40, g 41, g 42, g 43, g 44, g 45, g 46, g 47, g 48, g 49, g 50, g 51, g 52, g 53, g 54, g 55, g 56, g 57, g 58, g 59, g 60, g 61, g 62, g 63, g 64, g 65, g 66, g 67, g 68, g 69, g 70, g 71, g 72, g 73, g 74, g 75, g 76, g 77, g 78, g 79, g 80, g 81, g 82, g 83, g 84, g 85, g 86, g 87, g 88, g 89, g 90, g 91, g 92, g 93, g 94, g 95, g 96, g 97, g 98, g 99, g 100], []⟩) (by kernel_rfl) ?_
  intro g
  refine C_seq ?_
  refine C_region ?_
  refine S_v (.bool true) ?_
  refine S_nil ?_
  refine E_then ?_
  refine C_seq ?_
  refine C_true (by kernel_rfl) ?_
  refine C_skip ?_
  refine E_then ?_
  refine C_seq ?_
  refine C_block ?_
  refine C_seq ?_
  refine C_region ?_
  refine S_v (.int .i64 0) ?_
  refine S_v (.int .i64 0) ?_
  refine S_nil ?_
  refine E_then ?_
  refine C_drawn [.pure, .pure, .pure, .held, .pure, .pure, .held, .pure, .pure, .held, .pure, .held, .pure, .pure, .pure, .pure, .eff, .pure] (by kernel_rfl) (by kernel_rfl) ?_
  refine D_v (.int .i64 0) ?_
  refine D_v (.int .i64 0) ?_
  refine D_v (pt b1 0) ?_
  refine D_held (wd (lb a 0)) (by kernel_rfl) (ld1 3 b1 0 [wd (lb a 0), wd (lb a 1), wd (lb a 2), wd (lb a 3)] 34 rfl (by kernel_rfl) Tryd.isAgg29 (by kernel_rfl) (by kernel_rfl)) ?_
  refine D_v (.int .i64 3) ?_
  refine D_v (pt b2 3) ?_
  refine D_held (wd (lb b 3)) (by kernel_rfl) (ld1 2 b2 3 [wd (lb b 0), wd (lb b 1), wd (lb b 2), wd (lb b 3)] 34 rfl (by kernel_rfl) Tryd.isAgg29 (by kernel_rfl) (by kernel_rfl)) ?_
  refine D_v (.int .i64 0) ?_
  refine D_v (pt b4 0) ?_
  refine D_held (wd x62) (by kernel_rfl) (ld1 0 b4 0 [wd x62, wd x64, wd x66, wd x68, wd x70] 30 rfl (by kernel_rfl) Tryd.isAgg29 (by kernel_rfl) (by kernel_rfl)) ?_
  refine D_v (.int .u64 0) ?_
  obtain ⟨x71, c72, ex71, lx71, lc72, px71⟩ := into_ex (lb a 0) (lb b 3) x62 0 (lb_lt a 0) (lb_lt b 3) lx62 (by decide)
  refine D_pure (v := .tuple #[wd x71, wd c72]) (by kernel_rfl) px71 (fun _ => by kernel_rfl) ?_
  refine D_v (.tuple #[wd x71, wd c72]) ?_
  refine D_v (wd x71) ?_
  refine D_v (wd c72) ?_
  refine D_v (pt b4 0) ?_
  refine D_do (by kernel_rfl) (st1 (v := wd x71) (L' := [⟨b4, [wd x71, wd x64, wd x66, wd x68, wd x70], 30⟩, ⟨b3, [.int .u64 0, .int .u64 0, .int .u64 0, .int .u64 0], 34⟩, ⟨b2, [wd (lb b 0), wd (lb b 1), wd (lb b 2), wd (lb b 3)], 34⟩, ⟨b1, [wd (lb a 0), wd (lb a 1), wd (lb a 2), wd (lb a 3)], 34⟩]) 0 b4 0 [wd x62, wd x64, wd x66, wd x68, wd x70] 30 rfl (by kernel_rfl) (by kernel_rfl) Tryd.sizeOf29 (by rfl) (by kernel_rfl) (by simp) (by kernel_rfl)) ?_
  refine D_v (wd c72) ?_
  refine D_nil ?_
  refine E_inblock ?_
  refine E_then ?_
  refine C_region ?_
  refine S_v (.int .i64 1) ?_
  refine S_v (.int .i64 1) ?_
  refine S_nil ?_
  refine E_rounds ?_
  refine R_succ ?_
  refine C_forget (fun g => ⟨#[g 0, g 1, pt b1 0, pt b2 0, pt b3 0, pt b4 0, .int .i64 3, wd c72, g 8, g 9, g 10, g 11, g 12, .int .i64 3, g 14, g 15, .int .i64 1, g 17, g 18, g 19, g 20, g 21, g 22, g 23, g 24, g 25, g 26, g 27, g 28, g 29, g 30, g 31, g 32, g 33, g 34, g 35, g 36, g 37, g 38, g 39, g 40, g 41, g 42, g 43, g 44, g 45, g 46, g 47, g 48, g 49, g 50, g 51, g 52, g 53, g 54, g 55, g 56, g 57, g 58, g 59, g 60, g 61, g 62, g 63, g 64, g 65, g 66, g 67, g 68, g 69, g 70, g 71, g 72, g 73, g 74, g 75, g 76, g 77, g 78, g 79, g 80, g 81, g 82, g 83, g 84, g 85, g 86, g 87, g 88, g 89, g 90, g 91, g 92, g 93, g 94, g 95, g 96, g 97, g 98, g 99, g 100], []⟩) (by kernel_rfl) ?_
  intro g
  refine C_seq ?_
  refine C_region ?_
  refine S_v (.bool true) ?_
  refine S_nil ?_
  refine E_then ?_
  refine C_seq ?_
  refine C_true (by kernel_rfl) ?_
  refine C_skip ?_
  refine E_then ?_
  refine C_seq ?_
  refine C_block ?_
  refine C_seq ?_
  refine C_region ?_
  refine S_v (.int .i64 1) ?_
  refine S_v (.int .i64 1) ?_
  refine S_nil ?_
  refine E_then ?_
  refine C_drawn [.pure, .pure, .pure, .held, .pure, .pure, .held, .pure, .pure, .held, .pure, .held, .pure, .pure, .pure, .pure, .eff, .pure] (by kernel_rfl) (by kernel_rfl) ?_
  refine D_v (.int .i64 1) ?_
  refine D_v (.int .i64 1) ?_
  refine D_v (pt b1 1) ?_
  refine D_held (wd (lb a 1)) (by kernel_rfl) (ld1 3 b1 1 [wd (lb a 0), wd (lb a 1), wd (lb a 2), wd (lb a 3)] 34 rfl (by kernel_rfl) Tryd.isAgg29 (by kernel_rfl) (by kernel_rfl)) ?_
  refine D_v (.int .i64 3) ?_
  refine D_v (pt b2 3) ?_
  refine D_held (wd (lb b 3)) (by kernel_rfl) (ld1 2 b2 3 [wd (lb b 0), wd (lb b 1), wd (lb b 2), wd (lb b 3)] 34 rfl (by kernel_rfl) Tryd.isAgg29 (by kernel_rfl) (by kernel_rfl)) ?_
  refine D_v (.int .i64 1) ?_
  refine D_v (pt b4 1) ?_
  refine D_held (wd x64) (by kernel_rfl) (ld1 0 b4 1 [wd x71, wd x64, wd x66, wd x68, wd x70] 30 rfl (by kernel_rfl) Tryd.isAgg29 (by kernel_rfl) (by kernel_rfl)) ?_
  refine D_v (wd c72) ?_
  obtain ⟨x73, c74, ex73, lx73, lc74, px73⟩ := into_ex (lb a 1) (lb b 3) x64 c72 (lb_lt a 1) (lb_lt b 3) lx64 lc72
  refine D_pure (v := .tuple #[wd x73, wd c74]) (by kernel_rfl) px73 (fun _ => by kernel_rfl) ?_
  refine D_v (.tuple #[wd x73, wd c74]) ?_
  refine D_v (wd x73) ?_
  refine D_v (wd c74) ?_
  refine D_v (pt b4 1) ?_
  refine D_do (by kernel_rfl) (st1 (v := wd x73) (L' := [⟨b4, [wd x71, wd x73, wd x66, wd x68, wd x70], 30⟩, ⟨b3, [.int .u64 0, .int .u64 0, .int .u64 0, .int .u64 0], 34⟩, ⟨b2, [wd (lb b 0), wd (lb b 1), wd (lb b 2), wd (lb b 3)], 34⟩, ⟨b1, [wd (lb a 0), wd (lb a 1), wd (lb a 2), wd (lb a 3)], 34⟩]) 0 b4 1 [wd x71, wd x64, wd x66, wd x68, wd x70] 30 rfl (by kernel_rfl) (by kernel_rfl) Tryd.sizeOf29 (by rfl) (by kernel_rfl) (by simp) (by kernel_rfl)) ?_
  refine D_v (wd c74) ?_
  refine D_nil ?_
  refine E_inblock ?_
  refine E_then ?_
  refine C_region ?_
  refine S_v (.int .i64 2) ?_
  refine S_v (.int .i64 2) ?_
  refine S_nil ?_
  refine E_rounds ?_
  refine R_succ ?_
  refine C_forget (fun g => ⟨#[g 0, g 1, pt b1 0, pt b2 0, pt b3 0, pt b4 0, .int .i64 3, wd c74, g 8, g 9, g 10, g 11, g 12, .int .i64 3, g 14, g 15, .int .i64 2, g 17, g 18, g 19, g 20, g 21, g 22, g 23, g 24, g 25, g 26, g 27, g 28, g 29, g 30, g 31, g 32, g 33, g 34, g 35, g 36, g 37, g 38, g 39, g 40, g 41, g 42, g 43, g 44, g 45, g 46, g 47, g 48, g 49, g 50, g 51, g 52, g 53, g 54, g 55, g 56, g 57, g 58, g 59, g 60, g 61, g 62, g 63, g 64, g 65, g 66, g 67, g 68, g 69, g 70, g 71, g 72, g 73, g 74, g 75, g 76, g 77, g 78, g 79, g 80, g 81, g 82, g 83, g 84, g 85, g 86, g 87, g 88, g 89, g 90, g 91, g 92, g 93, g 94, g 95, g 96, g 97, g 98, g 99, g 100], []⟩) (by kernel_rfl) ?_
  intro g
  refine C_seq ?_
  refine C_region ?_
  refine S_v (.bool true) ?_
  refine S_nil ?_
  refine E_then ?_
  refine C_seq ?_
  refine C_true (by kernel_rfl) ?_
  refine C_skip ?_
  refine E_then ?_
  refine C_seq ?_
  refine C_block ?_
  refine C_seq ?_
  refine C_region ?_
  refine S_v (.int .i64 2) ?_
  refine S_v (.int .i64 2) ?_
  refine S_nil ?_
  refine E_then ?_
  refine C_drawn [.pure, .pure, .pure, .held, .pure, .pure, .held, .pure, .pure, .held, .pure, .held, .pure, .pure, .pure, .pure, .eff, .pure] (by kernel_rfl) (by kernel_rfl) ?_
  refine D_v (.int .i64 2) ?_
  refine D_v (.int .i64 2) ?_
  refine D_v (pt b1 2) ?_
  refine D_held (wd (lb a 2)) (by kernel_rfl) (ld1 3 b1 2 [wd (lb a 0), wd (lb a 1), wd (lb a 2), wd (lb a 3)] 34 rfl (by kernel_rfl) Tryd.isAgg29 (by kernel_rfl) (by kernel_rfl)) ?_
  refine D_v (.int .i64 3) ?_
  refine D_v (pt b2 3) ?_
  refine D_held (wd (lb b 3)) (by kernel_rfl) (ld1 2 b2 3 [wd (lb b 0), wd (lb b 1), wd (lb b 2), wd (lb b 3)] 34 rfl (by kernel_rfl) Tryd.isAgg29 (by kernel_rfl) (by kernel_rfl)) ?_
  refine D_v (.int .i64 2) ?_
  refine D_v (pt b4 2) ?_
  refine D_held (wd x66) (by kernel_rfl) (ld1 0 b4 2 [wd x71, wd x73, wd x66, wd x68, wd x70] 30 rfl (by kernel_rfl) Tryd.isAgg29 (by kernel_rfl) (by kernel_rfl)) ?_
  refine D_v (wd c74) ?_
  obtain ⟨x75, c76, ex75, lx75, lc76, px75⟩ := into_ex (lb a 2) (lb b 3) x66 c74 (lb_lt a 2) (lb_lt b 3) lx66 lc74
  refine D_pure (v := .tuple #[wd x75, wd c76]) (by kernel_rfl) px75 (fun _ => by kernel_rfl) ?_
  refine D_v (.tuple #[wd x75, wd c76]) ?_
  refine D_v (wd x75) ?_
  refine D_v (wd c76) ?_
  refine D_v (pt b4 2) ?_
  refine D_do (by kernel_rfl) (st1 (v := wd x75) (L' := [⟨b4, [wd x71, wd x73, wd x75, wd x68, wd x70], 30⟩, ⟨b3, [.int .u64 0, .int .u64 0, .int .u64 0, .int .u64 0], 34⟩, ⟨b2, [wd (lb b 0), wd (lb b 1), wd (lb b 2), wd (lb b 3)], 34⟩, ⟨b1, [wd (lb a 0), wd (lb a 1), wd (lb a 2), wd (lb a 3)], 34⟩]) 0 b4 2 [wd x71, wd x73, wd x66, wd x68, wd x70] 30 rfl (by kernel_rfl) (by kernel_rfl) Tryd.sizeOf29 (by rfl) (by kernel_rfl) (by simp) (by kernel_rfl)) ?_
  refine D_v (wd c76) ?_
  refine D_nil ?_
  refine E_inblock ?_
  refine E_then ?_
  refine C_region ?_
  refine S_v (.int .i64 3) ?_
  refine S_v (.int .i64 3) ?_
  refine S_nil ?_
  refine E_rounds ?_
  refine R_succ ?_
  refine C_forget (fun g => ⟨#[g 0, g 1, pt b1 0, pt b2 0, pt b3 0, pt b4 0, .int .i64 3, wd c76, g 8, g 9, g 10, g 11, g 12, .int .i64 3, g 14, g 15, .int .i64 3, g 17, g 18, g 19, g 20, g 21, g 22, g 23, g 24, g 25, g 26, g 27, g 28, g 29, g 30, g 31, g 32, g 33, g 34, g 35, g 36, g 37, g 38, g 39, g 40, g 41, g 42, g 43, g 44, g 45, g 46, g 47, g 48, g 49, g 50, g 51, g 52, g 53, g 54, g 55, g 56, g 57, g 58, g 59, g 60, g 61, g 62, g 63, g 64, g 65, g 66, g 67, g 68, g 69, g 70, g 71, g 72, g 73, g 74, g 75, g 76, g 77, g 78, g 79, g 80, g 81, g 82, g 83, g 84, g 85, g 86, g 87, g 88, g 89, g 90, g 91, g 92, g 93, g 94, g 95, g 96, g 97, g 98, g 99, g 100], []⟩) (by kernel_rfl) ?_
  intro g
  refine C_seq ?_
  refine C_region ?_
  refine S_v (.bool true) ?_
  refine S_nil ?_
  refine E_then ?_
  refine C_seq ?_
  refine C_true (by kernel_rfl) ?_
  refine C_skip ?_
  refine E_then ?_
  refine C_seq ?_
  refine C_block ?_
  refine C_seq ?_
  refine C_region ?_
  refine S_v (.int .i64 3) ?_
  refine S_v (.int .i64 3) ?_
  refine S_nil ?_
  refine E_then ?_
  refine C_drawn [.pure, .pure, .pure, .held, .pure, .pure, .held, .pure, .pure, .held, .pure, .held, .pure, .pure, .pure, .pure, .eff, .pure] (by kernel_rfl) (by kernel_rfl) ?_
  refine D_v (.int .i64 3) ?_
  refine D_v (.int .i64 3) ?_
  refine D_v (pt b1 3) ?_
  refine D_held (wd (lb a 3)) (by kernel_rfl) (ld1 3 b1 3 [wd (lb a 0), wd (lb a 1), wd (lb a 2), wd (lb a 3)] 34 rfl (by kernel_rfl) Tryd.isAgg29 (by kernel_rfl) (by kernel_rfl)) ?_
  refine D_v (.int .i64 3) ?_
  refine D_v (pt b2 3) ?_
  refine D_held (wd (lb b 3)) (by kernel_rfl) (ld1 2 b2 3 [wd (lb b 0), wd (lb b 1), wd (lb b 2), wd (lb b 3)] 34 rfl (by kernel_rfl) Tryd.isAgg29 (by kernel_rfl) (by kernel_rfl)) ?_
  refine D_v (.int .i64 3) ?_
  refine D_v (pt b4 3) ?_
  refine D_held (wd x68) (by kernel_rfl) (ld1 0 b4 3 [wd x71, wd x73, wd x75, wd x68, wd x70] 30 rfl (by kernel_rfl) Tryd.isAgg29 (by kernel_rfl) (by kernel_rfl)) ?_
  refine D_v (wd c76) ?_
  obtain ⟨x77, c78, ex77, lx77, lc78, px77⟩ := into_ex (lb a 3) (lb b 3) x68 c76 (lb_lt a 3) (lb_lt b 3) lx68 lc76
  refine D_pure (v := .tuple #[wd x77, wd c78]) (by kernel_rfl) px77 (fun _ => by kernel_rfl) ?_
  refine D_v (.tuple #[wd x77, wd c78]) ?_
  refine D_v (wd x77) ?_
  refine D_v (wd c78) ?_
  refine D_v (pt b4 3) ?_
  refine D_do (by kernel_rfl) (st1 (v := wd x77) (L' := [⟨b4, [wd x71, wd x73, wd x75, wd x77, wd x70], 30⟩, ⟨b3, [.int .u64 0, .int .u64 0, .int .u64 0, .int .u64 0], 34⟩, ⟨b2, [wd (lb b 0), wd (lb b 1), wd (lb b 2), wd (lb b 3)], 34⟩, ⟨b1, [wd (lb a 0), wd (lb a 1), wd (lb a 2), wd (lb a 3)], 34⟩]) 0 b4 3 [wd x71, wd x73, wd x75, wd x68, wd x70] 30 rfl (by kernel_rfl) (by kernel_rfl) Tryd.sizeOf29 (by rfl) (by kernel_rfl) (by simp) (by kernel_rfl)) ?_
  refine D_v (wd c78) ?_
  refine D_nil ?_
  refine E_inblock ?_
  refine E_then ?_
  refine C_region ?_
  refine S_v (.int .i64 4) ?_
  refine S_v (.int .i64 4) ?_
  refine S_nil ?_
  refine E_rounds ?_
  refine R_succ ?_
  refine C_forget (fun g => ⟨#[g 0, g 1, pt b1 0, pt b2 0, pt b3 0, pt b4 0, .int .i64 3, wd c78, g 8, g 9, g 10, g 11, g 12, .int .i64 3, g 14, g 15, .int .i64 4, g 17, g 18, g 19, g 20, g 21, g 22, g 23, g 24, g 25, g 26, g 27, g 28, g 29, g 30, g 31, g 32, g 33, g 34, g 35, g 36, g 37, g 38, g 39, g 40, g 41, g 42, g 43, g 44, g 45, g 46, g 47, g 48, g 49, g 50, g 51, g 52, g 53, g 54, g 55, g 56, g 57, g 58, g 59, g 60, g 61, g 62, g 63, g 64, g 65, g 66, g 67, g 68, g 69, g 70, g 71, g 72, g 73, g 74, g 75, g 76, g 77, g 78, g 79, g 80, g 81, g 82, g 83, g 84, g 85, g 86, g 87, g 88, g 89, g 90, g 91, g 92, g 93, g 94, g 95, g 96, g 97, g 98, g 99, g 100], []⟩) (by kernel_rfl) ?_
  intro g
  refine C_seq ?_
  refine C_region ?_
  refine S_v (.bool false) ?_
  refine S_nil ?_
  refine E_then ?_
  refine C_seq ?_
  refine C_false (by kernel_rfl) ?_
  refine C_exit ?_
  refine E_pass_exit ?_
  refine E_pass_exit ?_
  refine E_outblock ?_
  refine E_then ?_
  refine C_seq ?_
  refine C_region ?_
  refine S_v (pt b4 4) ?_
  refine S_val (wd x70) (by kernel_rfl) (ld1 0 b4 4 [wd x71, wd x73, wd x75, wd x77, wd x70] 30 rfl (by kernel_rfl) Tryd.isAgg29 (by kernel_rfl) (by kernel_rfl)) ?_
  refine S_v (wd c78) ?_
  obtain ⟨x79, k80, ex79, lx79, ok80, hx79, hk80⟩ := addc_ex x70 c78 0 lx70 lc78 (by decide)
  refine S_val (.tuple #[wd x79, wd k80]) (by kernel_rfl) (fun w _ => fv (v := .tuple #[wd ((x70 + c78 + 0) % 18446744073709551616), wd ((x70 + c78 + 0) / 18446744073709551616)]) (by rw [hx79, hk80]) ((clv (x := .func 52) rfl (by kernel_rfl) (by kernel_rfl) (by kernel_rfl) (x_add x70 c78 0 (by decide))) w)) ?_
  refine S_v (.tuple #[wd x79, wd k80]) ?_
  refine S_v (wd x79) ?_
  refine S_v (wd k80) ?_
  refine S_v (pt b4 4) ?_
  refine S_do (by kernel_rfl) (st1 (v := wd x79) (L' := [⟨b4, [wd x71, wd x73, wd x75, wd x77, wd x79], 30⟩, ⟨b3, [.int .u64 0, .int .u64 0, .int .u64 0, .int .u64 0], 34⟩, ⟨b2, [wd (lb b 0), wd (lb b 1), wd (lb b 2), wd (lb b 3)], 34⟩, ⟨b1, [wd (lb a 0), wd (lb a 1), wd (lb a 2), wd (lb a 3)], 34⟩]) 0 b4 4 [wd x71, wd x73, wd x75, wd x77, wd x70] 30 rfl (by kernel_rfl) (by kernel_rfl) Tryd.sizeOf29 (by rfl) (by kernel_rfl) (by simp) (by kernel_rfl)) ?_
  refine S_v (wd k80) ?_
  refine S_nil ?_
  refine E_then ?_
  refine C_seq ?_
  refine C_region ?_
  refine S_v (wd k80) ?_
  refine S_v (wd k80) ?_
  refine S_nil ?_
  refine E_then ?_
  refine C_seq ?_
  refine C_region ?_
  refine S_v (pt b4 0) ?_
  refine S_val (wd x71) (by kernel_rfl) (ld1 0 b4 0 [wd x71, wd x73, wd x75, wd x77, wd x79] 30 rfl (by kernel_rfl) Tryd.isAgg29 (by kernel_rfl) (by kernel_rfl)) ?_
  obtain ⟨x81, hx81, lx81⟩ : ∃ q, q = (x71 * 15183074304973897243) % 18446744073709551616 ∧ q < 18446744073709551616 := ⟨_, rfl, Nat.mod_lt _ (by decide)⟩
  refine S_val (wd x81) (by kernel_rfl) (fun _ _ => fv (v := .int .u64 (IntKind.u64.wrap (((x71 : Nat) : Int) * 15183074304973897243))) ((vint (hx81 ▸ u_mul x71 15183074304973897243))) (by kernel_rfl)) ?_
  refine S_v (wd x81) ?_
  refine S_nil ?_
  refine E_then ?_
  refine C_seq ?_
  refine C_region ?_
  refine S_v (wd x81) ?_
  refine S_v (pt 0 0) ?_
  refine S_v (pt 0 0) ?_
  refine S_val (.int .u64 6346243789798364141) (by kernel_rfl) (ld1o (v := .int .u64 6346243789798364141) 0 0 rfl (by kernel_rfl) Tryd.isAgg29 (hT.at 0 (by kernel_rfl))) ?_
  refine S_v (pt b4 0) ?_
  refine S_val (wd x71) (by kernel_rfl) (ld1 0 b4 0 [wd x71, wd x73, wd x75, wd x77, wd x79] 30 rfl (by kernel_rfl) Tryd.isAgg29 (by kernel_rfl) (by kernel_rfl)) ?_
  obtain ⟨x82, c83, ex82, lx82, lc83, px82⟩ := into_ex x81 6346243789798364141 x71 0 lx81 (by decide) lx71 (by decide)
  refine S_pure (v := .tuple #[wd x82, wd c83]) (by kernel_rfl) px82 (fun _ => by kernel_rfl) ?_
  refine S_v (.tuple #[wd x82, wd c83]) ?_
  refine S_v (wd x82) ?_
  refine S_v (wd c83) ?_
  refine S_v (wd c83) ?_
  refine S_nil ?_
  refine E_then ?_
  refine C_seq ?_
  refine C_seq ?_
  refine C_region ?_
  refine S_v (.int .i64 1) ?_
  refine S_nil ?_
  refine E_then ?_
  refine C_block ?_
  refine C_unroll 4 ?_
  refine R_succ ?_
  refine C_forget (fun g => ⟨#[g 0, g 1, pt b1 0, pt b2 0, pt b3 0, pt b4 0, g 6, wd c83, g 8, g 9, wd k80, wd x81, .int .i64 1, .int .i64 3, g 14, g 15, g 16, g 17, g 18, g 19, g 20, g 21, g 22, g 23, g 24, g 25, g 26, g 27, g 28, g 29, g 30, g 31, g 32, g 33, g 34, g 35, g 36, g 37, g 38, g 39, g 40, g 41, g 42, g 43, g 44, g 45, g 46, g 47, g 48, g 49, g 50, g 51, g 52, g 53, g 54, g 55, g 56, g 57, g 58, g 59, g 60, g 61, g 62, g 63, g 64, g 65, g 66, g 67, g 68, g 69, g 70, g 71, g 72, g 73, g 74, g 75, g 76, g 77, g 78, g 79, g 80, g 81, g 82, g 83, g 84, g 85, g 86, g 87, g 88, g 89, g 90, g 91, g 92, g 93, g 94, g 95, g 96, g 97, g 98, g 99, g 100], []⟩) (by kernel_rfl) ?_
  intro g
  refine C_seq ?_
  refine C_seq ?_
  refine C_region ?_
  refine S_v (.int .i64 1) ?_
  refine S_v (.bool true) ?_
  refine S_nil ?_
  refine E_then ?_
  refine C_true (by kernel_rfl) ?_
  refine C_skip ?_
  refine E_then ?_
  refine C_seq ?_
  refine C_block ?_
  refine C_drawn [.pure, .pure, .pure, .pure, .pure, .pure, .held, .pure, .pure, .held, .pure, .held, .pure, .pure, .pure, .pure, .eff, .pure] (by kernel_rfl) (by kernel_rfl) ?_
  refine D_v (.int .i64 1) ?_
  refine D_v (.int .i64 0) ?_
  refine D_v (wd x81) ?_
  refine D_v (.int .i64 1) ?_
  refine D_v (pt 0 0) ?_
  refine D_v (pt 0 1) ?_
  refine D_held (.int .u64 1503914060200516822) (by kernel_rfl) (ld1o (v := .int .u64 1503914060200516822) 0 1 rfl (by kernel_rfl) Tryd.isAgg29 (hT.at 1 (by kernel_rfl))) ?_
  refine D_v (.int .i64 1) ?_
  refine D_v (pt b4 1) ?_
  refine D_held (wd x73) (by kernel_rfl) (ld1 0 b4 1 [wd x71, wd x73, wd x75, wd x77, wd x79] 30 rfl (by kernel_rfl) Tryd.isAgg29 (by kernel_rfl) (by kernel_rfl)) ?_
  refine D_v (wd c83) ?_
  obtain ⟨x84, c85, ex84, lx84, lc85, px84⟩ := into_ex x81 1503914060200516822 x73 c83 lx81 (by decide) lx73 lc83
  refine D_pure (v := .tuple #[wd x84, wd c85]) (by kernel_rfl) px84 (fun _ => by kernel_rfl) ?_
  refine D_v (.tuple #[wd x84, wd c85]) ?_
  refine D_v (wd x84) ?_
  refine D_v (wd c85) ?_
  refine D_v (pt b4 0) ?_
  refine D_do (by kernel_rfl) (st1 (v := wd x84) (L' := [⟨b4, [wd x84, wd x73, wd x75, wd x77, wd x79], 30⟩, ⟨b3, [.int .u64 0, .int .u64 0, .int .u64 0, .int .u64 0], 34⟩, ⟨b2, [wd (lb b 0), wd (lb b 1), wd (lb b 2), wd (lb b 3)], 34⟩, ⟨b1, [wd (lb a 0), wd (lb a 1), wd (lb a 2), wd (lb a 3)], 34⟩]) 0 b4 0 [wd x71, wd x73, wd x75, wd x77, wd x79] 30 rfl (by kernel_rfl) (by kernel_rfl) Tryd.sizeOf29 (by rfl) (by kernel_rfl) (by simp) (by kernel_rfl)) ?_
  refine D_v (wd c85) ?_
  refine D_nil ?_
  refine E_inblock ?_
  refine E_then ?_
  refine C_region ?_
  refine S_v (.int .i64 1) ?_
  refine S_v (.int .i64 2) ?_
  refine S_v (.int .i64 2) ?_
  refine S_nil ?_
  refine E_rounds ?_
  refine R_succ ?_
  refine C_forget (fun g => ⟨#[g 0, g 1, pt b1 0, pt b2 0, pt b3 0, pt b4 0, g 6, wd c85, g 8, g 9, wd k80, wd x81, .int .i64 2, .int .i64 3, g 14, g 15, g 16, g 17, g 18, g 19, g 20, g 21, g 22, g 23, g 24, g 25, g 26, g 27, g 28, g 29, g 30, g 31, g 32, g 33, g 34, g 35, g 36, g 37, g 38, g 39, g 40, g 41, g 42, g 43, g 44, g 45, g 46, g 47, g 48, g 49, g 50, g 51, g 52, g 53, g 54, g 55, g 56, g 57, g 58, g 59, g 60, g 61, g 62, g 63, g 64, g 65, g 66, g 67, g 68, g 69, g 70, g 71, g 72, g 73, g 74, g 75, g 76, g 77, g 78, g 79, g 80, g 81, g 82, g 83, g 84, g 85, g 86, g 87, g 88, g 89, g 90, g 91, g 92, g 93, g 94, g 95, g 96, g 97, g 98, g 99, g 100], []⟩) (by kernel_rfl) ?_
  intro g
  refine C_seq ?_
  refine C_seq ?_
  refine C_region ?_
  refine S_v (.int .i64 2) ?_
  refine S_v (.bool true) ?_
  refine S_nil ?_
  refine E_then ?_
  refine C_true (by kernel_rfl) ?_
  refine C_skip ?_
  refine E_then ?_
  refine C_seq ?_
  refine C_block ?_
  refine C_drawn [.pure, .pure, .pure, .pure, .pure, .pure, .held, .pure, .pure, .held, .pure, .held, .pure, .pure, .pure, .pure, .eff, .pure] (by kernel_rfl) (by kernel_rfl) ?_
  refine D_v (.int .i64 2) ?_
  refine D_v (.int .i64 1) ?_
  refine D_v (wd x81) ?_
  refine D_v (.int .i64 2) ?_
  refine D_v (pt 0 0) ?_
  refine D_v (pt 0 2) ?_
  refine D_held (.int .u64 0) (by kernel_rfl) (ld1o (v := .int .u64 0) 0 2 rfl (by kernel_rfl) Tryd.isAgg29 (hT.at 2 (by kernel_rfl))) ?_
  refine D_v (.int .i64 2) ?_
  refine D_v (pt b4 2) ?_
  refine D_held (wd x75) (by kernel_rfl) (ld1 0 b4 2 [wd x84, wd x73, wd x75, wd x77, wd x79] 30 rfl (by kernel_rfl) Tryd.isAgg29 (by kernel_rfl) (by kernel_rfl)) ?_
  refine D_v (wd c85) ?_
  obtain ⟨x86, c87, ex86, lx86, lc87, px86⟩ := into_ex x81 0 x75 c85 lx81 (by decide) lx75 lc85
  refine D_pure (v := .tuple #[wd x86, wd c87]) (by kernel_rfl) px86 (fun _ => by kernel_rfl) ?_
  refine D_v (.tuple #[wd x86, wd c87]) ?_
  refine D_v (wd x86) ?_
  refine D_v (wd c87) ?_
  refine D_v (pt b4 1) ?_
  refine D_do (by kernel_rfl) (st1 (v := wd x86) (L' := [⟨b4, [wd x84, wd x86, wd x75, wd x77, wd x79], 30⟩, ⟨b3, [.int .u64 0, .int .u64 0, .int .u64 0, .int .u64 0], 34⟩, ⟨b2, [wd (lb b 0), wd (lb b 1), wd (lb b 2), wd (lb b 3)], 34⟩, ⟨b1, [wd (lb a 0), wd (lb a 1), wd (lb a 2), wd (lb a 3)], 34⟩]) 0 b4 1 [wd x84, wd x73, wd x75, wd x77, wd x79] 30 rfl (by kernel_rfl) (by kernel_rfl) Tryd.sizeOf29 (by rfl) (by kernel_rfl) (by simp) (by kernel_rfl)) ?_
  refine D_v (wd c87) ?_
  refine D_nil ?_
  refine E_inblock ?_
  refine E_then ?_
  refine C_region ?_
  refine S_v (.int .i64 2) ?_
  refine S_v (.int .i64 3) ?_
  refine S_v (.int .i64 3) ?_
  refine S_nil ?_
  refine E_rounds ?_
  refine R_succ ?_
  refine C_forget (fun g => ⟨#[g 0, g 1, pt b1 0, pt b2 0, pt b3 0, pt b4 0, g 6, wd c87, g 8, g 9, wd k80, wd x81, .int .i64 3, .int .i64 3, g 14, g 15, g 16, g 17, g 18, g 19, g 20, g 21, g 22, g 23, g 24, g 25, g 26, g 27, g 28, g 29, g 30, g 31, g 32, g 33, g 34, g 35, g 36, g 37, g 38, g 39, g 40, g 41, g 42, g 43, g 44, g 45, g 46, g 47, g 48, g 49, g 50, g 51, g 52, g 53, g 54, g 55, g 56, g 57, g 58, g 59, g 60, g 61, g 62, g 63, g 64, g 65, g 66, g 67, g 68, g 69, g 70, g 71, g 72, g 73, g 74, g 75, g 76, g 77, g 78, g 79, g 80, g 81, g 82, g 83, g 84, g 85, g 86, g 87, g 88, g 89, g 90, g 91, g 92, g 93, g 94, g 95, g 96, g 97, g 98, g 99, g 100], []⟩) (by kernel_rfl) ?_
  intro g
  refine C_seq ?_
  refine C_seq ?_
  refine C_region ?_
  refine S_v (.int .i64 3) ?_
  refine S_v (.bool true) ?_
  refine S_nil ?_
  refine E_then ?_
  refine C_true (by kernel_rfl) ?_
  refine C_skip ?_
  refine E_then ?_
  refine C_seq ?_
  refine C_block ?_
  refine C_drawn [.pure, .pure, .pure, .pure, .pure, .pure, .held, .pure, .pure, .held, .pure, .held, .pure, .pure, .pure, .pure, .eff, .pure] (by kernel_rfl) (by kernel_rfl) ?_
  refine D_v (.int .i64 3) ?_
  refine D_v (.int .i64 2) ?_
  refine D_v (wd x81) ?_
  refine D_v (.int .i64 3) ?_
  refine D_v (pt 0 0) ?_
  refine D_v (pt 0 3) ?_
  refine D_held (.int .u64 1152921504606846976) (by kernel_rfl) (ld1o (v := .int .u64 1152921504606846976) 0 3 rfl (by kernel_rfl) Tryd.isAgg29 (hT.at 3 (by kernel_rfl))) ?_
  refine D_v (.int .i64 3) ?_
  refine D_v (pt b4 3) ?_
  refine D_held (wd x77) (by kernel_rfl) (ld1 0 b4 3 [wd x84, wd x86, wd x75, wd x77, wd x79] 30 rfl (by kernel_rfl) Tryd.isAgg29 (by kernel_rfl) (by kernel_rfl)) ?_
  refine D_v (wd c87) ?_
  obtain ⟨x88, c89, ex88, lx88, lc89, px88⟩ := into_ex x81 1152921504606846976 x77 c87 lx81 (by decide) lx77 lc87
  refine D_pure (v := .tuple #[wd x88, wd c89]) (by kernel_rfl) px88 (fun _ => by kernel_rfl) ?_
  refine D_v (.tuple #[wd x88, wd c89]) ?_
  refine D_v (wd x88) ?_
  refine D_v (wd c89) ?_
  refine D_v (pt b4 2) ?_
  refine D_do (by kernel_rfl) (st1 (v := wd x88) (L' := [⟨b4, [wd x84, wd x86, wd x88, wd x77, wd x79], 30⟩, ⟨b3, [.int .u64 0, .int .u64 0, .int .u64 0, .int .u64 0], 34⟩, ⟨b2, [wd (lb b 0), wd (lb b 1), wd (lb b 2), wd (lb b 3)], 34⟩, ⟨b1, [wd (lb a 0), wd (lb a 1), wd (lb a 2), wd (lb a 3)], 34⟩]) 0 b4 2 [wd x84, wd x86, wd x75, wd x77, wd x79] 30 rfl (by kernel_rfl) (by kernel_rfl) Tryd.sizeOf29 (by rfl) (by kernel_rfl) (by simp) (by kernel_rfl)) ?_
  refine D_v (wd c89) ?_
  refine D_nil ?_
  refine E_inblock ?_
  refine E_then ?_
  refine C_region ?_
  refine S_v (.int .i64 3) ?_
  refine S_v (.int .i64 4) ?_
  refine S_v (.int .i64 4) ?_
  refine S_nil ?_
  refine E_rounds ?_
  refine R_succ ?_
  refine C_forget (fun g => ⟨#[g 0, g 1, pt b1 0, pt b2 0, pt b3 0, pt b4 0, g 6, wd c89, g 8, g 9, wd k80, wd x81, .int .i64 4, .int .i64 3, g 14, g 15, g 16, g 17, g 18, g 19, g 20, g 21, g 22, g 23, g 24, g 25, g 26, g 27, g 28, g 29, g 30, g 31, g 32, g 33, g 34, g 35, g 36, g 37, g 38, g 39, g 40, g 41, g 42, g 43, g 44, g 45, g 46, g 47, g 48, g 49, g 50, g 51, g 52, g 53, g 54, g 55, g 56, g 57, g 58, g 59, g 60, g 61, g 62, g 63, g 64, g 65, g 66, g 67, g 68, g 69, g 70, g 71, g 72, g 73, g 74, g 75, g 76, g 77, g 78, g 79, g 80, g 81, g 82, g 83, g 84, g 85, g 86, g 87, g 88, g 89, g 90, g 91, g 92, g 93, g 94, g 95, g 96, g 97, g 98, g 99, g 100], []⟩) (by kernel_rfl) ?_
  intro g
  refine C_seq ?_
  refine C_seq ?_
  refine C_region ?_
  refine S_v (.int .i64 4) ?_
  refine S_v (.bool false) ?_
  refine S_nil ?_
  refine E_then ?_
  refine C_false (by kernel_rfl) ?_
  refine C_exit ?_
  refine E_pass_exit ?_
  refine E_pass_exit ?_
  refine E_outblock ?_
  refine E_then ?_
  refine C_seq ?_
  refine C_region ?_
  refine S_v (pt b4 4) ?_
  refine S_val (wd x79) (by kernel_rfl) (ld1 0 b4 4 [wd x84, wd x86, wd x88, wd x77, wd x79] 30 rfl (by kernel_rfl) Tryd.isAgg29 (by kernel_rfl) (by kernel_rfl)) ?_
  refine S_v (wd c89) ?_
  obtain ⟨x90, k91, ex90, lx90, ok91, hx90, hk91⟩ := addc_ex x79 c89 0 lx79 lc89 (by decide)
  refine S_val (.tuple #[wd x90, wd k91]) (by kernel_rfl) (fun w _ => fv (v := .tuple #[wd ((x79 + c89 + 0) % 18446744073709551616), wd ((x79 + c89 + 0) / 18446744073709551616)]) (by rw [hx90, hk91]) ((clv (x := .func 52) rfl (by kernel_rfl) (by kernel_rfl) (by kernel_rfl) (x_add x79 c89 0 (by decide))) w)) ?_
  refine S_v (.tuple #[wd x90, wd k91]) ?_
  refine S_v (wd x90) ?_
  refine S_v (wd k91) ?_
  refine S_v (pt b4 3) ?_
  refine S_do (by kernel_rfl) (st1 (v := wd x90) (L' := [⟨b4, [wd x84, wd x86, wd x88, wd x90, wd x79], 30⟩, ⟨b3, [.int .u64 0, .int .u64 0, .int .u64 0, .int .u64 0], 34⟩, ⟨b2, [wd (lb b 0), wd (lb b 1), wd (lb b 2), wd (lb b 3)], 34⟩, ⟨b1, [wd (lb a 0), wd (lb a 1), wd (lb a 2), wd (lb a 3)], 34⟩]) 0 b4 3 [wd x84, wd x86, wd x88, wd x77, wd x79] 30 rfl (by kernel_rfl) (by kernel_rfl) Tryd.sizeOf29 (by rfl) (by kernel_rfl) (by simp) (by kernel_rfl)) ?_
  refine S_v (wd k91) ?_
  refine S_nil ?_
  refine E_then ?_
  refine C_region ?_
  refine S_v (wd k80) ?_
  refine S_v (wd k91) ?_
  obtain ⟨x92, hx92, lx92⟩ : ∃ q, q = (k80 + k91) % 18446744073709551616 ∧ q < 18446744073709551616 := ⟨_, rfl, Nat.mod_lt _ (by decide)⟩
  refine S_val (wd x92) (by kernel_rfl) (fun _ _ => fv (v := .int .u64 (IntKind.u64.wrap (((k80 : Nat) : Int) + ((k91 : Nat) : Int)))) ((vint (hx92 ▸ u_add k80 k91))) (by kernel_rfl)) ?_
  refine S_v (pt b4 4) ?_
  refine S_do (by kernel_rfl) (st1 (v := wd x92) (L' := [⟨b4, [wd x84, wd x86, wd x88, wd x90, wd x92], 30⟩, ⟨b3, [.int .u64 0, .int .u64 0, .int .u64 0, .int .u64 0], 34⟩, ⟨b2, [wd (lb b 0), wd (lb b 1), wd (lb b 2), wd (lb b 3)], 34⟩, ⟨b1, [wd (lb a 0), wd (lb a 1), wd (lb a 2), wd (lb a 3)], 34⟩]) 0 b4 4 [wd x84, wd x86, wd x88, wd x90, wd x79] 30 rfl (by kernel_rfl) (by kernel_rfl) Tryd.sizeOf29 (by rfl) (by kernel_rfl) (by simp) (by kernel_rfl)) ?_
  refine S_nil ?_
  refine E_inblock ?_
  refine E_then ?_
  refine C_region ?_
  refine S_v (.int .i64 4) ?_
  refine S_v (.int .i64 4) ?_
  refine S_nil ?_
  refine E_rounds ?_
  refine R_succ ?_
  refine C_forget (fun g => ⟨#[g 0, g 1, pt b1 0, pt b2 0, pt b3 0, pt b4 0, g 6, g 7, g 8, g 9, g 10, g 11, g 12, .int .i64 4, g 14, g 15, g 16, g 17, g 18, g 19, g 20, g 21, g 22, g 23, g 24, g 25, g 26, g 27, g 28, g 29, g 30, g 31, g 32, g 33, g 34, g 35, g 36, g 37, g 38, g 39, g 40, g 41, g 42, g 43, g 44, g 45, g 46, g 47, g 48, g 49, g 50, g 51, g 52, g 53, g 54, g 55, g 56, g 57, g 58, g 59, g 60, g 61, g 62, g 63, g 64, g 65, g 66, g 67, g 68, g 69, g 70, g 71, g 72, g 73, g 74, g 75, g 76, g 77, g 78, g 79, g 80, g 81, g 82, g 83, g 84, g 85, g 86, g 87, g 88, g 89, g 90, g 91, g 92, g 93, g 94, g 95, g 96, g 97, g 98, g 99, g 100], []⟩) (by kernel_rfl) ?_
  intro g
  have R3 := mround (a0 := lb a 0) (a1 := lb a 1) (a2 := lb a 2) (a3 := lb a 3) (b := lb b 3) (t0 := x62) (t1 := x64) (t2 := x66) (t3 := x68) (t4 := x70) lx82 ex71 ex73 ex75 ex77 hx79 hk80 hx81 ex82 ex84 ex86 ex88 hx90 hk91 hx92 ok80 ok91
  refine C_seq ?_
  refine C_region ?_
  refine S_v (.bool false) ?_
  refine S_nil ?_
  refine E_then ?_
  refine C_seq ?_
  refine C_false (by kernel_rfl) ?_
  refine C_exit ?_
  refine E_pass_exit ?_
  refine E_pass_exit ?_
  refine E_outblock ?_
  refine E_then ?_
  refine C_seq ?_
  refine C_region ?_
  obtain ⟨hX, Q⟩ := mont_all ha hb (lb_sum a (Nat.lt_trans ha (by decide))) (lb_sum b (Nat.lt_trans hb (by decide))) R0 R1 R2 R3 lx15 lx37 lx59 lx81
  have J := sc_join lx84 lx86 lx88 lx90 (n := x84 + 18446744073709551616 * x86 + 340282366920938463463374607431768211456 * x88 + 6277101735386680763835789423207666416102355444464034512896 * x90) rfl
  refine S_v (pt b4 0) ?_
  refine S_val (wd x84) (by kernel_rfl) (ld1 0 b4 0 [wd x84, wd x86, wd x88, wd x90, wd x92] 30 rfl (by kernel_rfl) Tryd.isAgg29 (by kernel_rfl) (by kernel_rfl)) ?_
  refine S_v (pt b4 1) ?_
  refine S_val (wd x86) (by kernel_rfl) (ld1 0 b4 1 [wd x84, wd x86, wd x88, wd x90, wd x92] 30 rfl (by kernel_rfl) Tryd.isAgg29 (by kernel_rfl) (by kernel_rfl)) ?_
  refine S_v (pt b4 2) ?_
  refine S_val (wd x88) (by kernel_rfl) (ld1 0 b4 2 [wd x84, wd x86, wd x88, wd x90, wd x92] 30 rfl (by kernel_rfl) Tryd.isAgg29 (by kernel_rfl) (by kernel_rfl)) ?_
  refine S_v (pt b4 3) ?_
  refine S_val (wd x90) (by kernel_rfl) (ld1 0 b4 3 [wd x84, wd x86, wd x88, wd x90, wd x92] 30 rfl (by kernel_rfl) Tryd.isAgg29 (by kernel_rfl) (by kernel_rfl)) ?_
  refine S_v (.agg #[wd x84, wd x86, wd x88, wd x90]) ?_
  have hC93 := fun (w : World) (hG : GV 0 tbS w) => c_lower w hG (x84 + 18446744073709551616 * x86 + 340282366920938463463374607431768211456 * x88 + 6277101735386680763835789423207666416102355444464034512896 * x90) hX
  rw [J] at hC93
  refine S_call (by kernel_rfl) (fun _ _ => by kernel_rfl) (fun w hO => ((hC93 w (hT.own hO))).mono fun _ _ ⟨he, hb⟩ => ⟨sc4 (low (x84 + 18446744073709551616 * x86 + 340282366920938463463374607431768211456 * x88 + 6277101735386680763835789423207666416102355444464034512896 * x90)), _, he, hO.call hb, ?_⟩)
  refine S_do (by kernel_rfl) (stN (L' := [⟨b4, [wd x84, wd x86, wd x88, wd x90, wd x92], 30⟩, ⟨b3, [wd (lb (low (x84 + 18446744073709551616 * x86 + 340282366920938463463374607431768211456 * x88 + 6277101735386680763835789423207666416102355444464034512896 * x90)) 0), wd (lb (low (x84 + 18446744073709551616 * x86 + 340282366920938463463374607431768211456 * x88 + 6277101735386680763835789423207666416102355444464034512896 * x90)) 1), wd (lb (low (x84 + 18446744073709551616 * x86 + 340282366920938463463374607431768211456 * x88 + 6277101735386680763835789423207666416102355444464034512896 * x90)) 2), wd (lb (low (x84 + 18446744073709551616 * x86 + 340282366920938463463374607431768211456 * x88 + 6277101735386680763835789423207666416102355444464034512896 * x90)) 3)], 34⟩, ⟨b2, [wd (lb b 0), wd (lb b 1), wd (lb b 2), wd (lb b 3)], 34⟩, ⟨b1, [wd (lb a 0), wd (lb a 1), wd (lb a 2), wd (lb a 3)], 34⟩]) [wd (lb (low (x84 + 18446744073709551616 * x86 + 340282366920938463463374607431768211456 * x88 + 6277101735386680763835789423207666416102355444464034512896 * x90)) 0), wd (lb (low (x84 + 18446744073709551616 * x86 + 340282366920938463463374607431768211456 * x88 + 6277101735386680763835789423207666416102355444464034512896 * x90)) 1), wd (lb (low (x84 + 18446744073709551616 * x86 + 340282366920938463463374607431768211456 * x88 + 6277101735386680763835789423207666416102355444464034512896 * x90)) 2), wd (lb (low (x84 + 18446744073709551616 * x86 + 340282366920938463463374607431768211456 * x88 + 6277101735386680763835789423207666416102355444464034512896 * x90)) 3)] 1 b3 0 [.int .u64 0, .int .u64 0, .int .u64 0, .int .u64 0] 34 rfl (by kernel_rfl) (by kernel_rfl) Tryd.sizeOf34 (by simp [Value.oneCell']) (by kernel_rfl) (by simp) (by kernel_rfl)) ?_
  refine S_nil ?_
  refine E_then ?_
  refine C_ret ?_
  rw [Q]
  exact pure_ret rfl (resC Tryd.results32 [wd (lb (low (x84 + 18446744073709551616 * x86 + 340282366920938463463374607431768211456 * x88 + 6277101735386680763835789423207666416102355444464034512896 * x90)) 0), wd (lb (low (x84 + 18446744073709551616 * x86 + 340282366920938463463374607431768211456 * x88 + 6277101735386680763835789423207666416102355444464034512896 * x90)) 1), wd (lb (low (x84 + 18446744073709551616 * x86 + 340282366920938463463374607431768211456 * x88 + 6277101735386680763835789423207666416102355444464034512896 * x90)) 2), wd (lb (low (x84 + 18446744073709551616 * x86 + 340282366920938463463374607431768211456 * x88 + 6277101735386680763835789423207666416102355444464034512896 * x90)) 3)] 1 b3 34 (by kernel_rfl) Tryd.isAgg34 Tryd.sizeOf34 (by kernel_rfl))
theorem c_least (w0 : World) (hT : GV 0 tbS w0) (n : Nat) (hn : n < W256) : Calls Tryd.prog 30 #[sc4 n] w0 fun e w' => e = .returned (sc4 (n % ll)) ∧ Below w0.heap.size w0 w' := by
  refine calls_start Tryd.func30 rfl ?_
  refine C_seq ?_
  refine C_region ?_
  refine S_newv (fun nb0 => pt nb0 0) [wd (lb n 0), wd (lb n 1), wd (lb n 2), wd (lb n 3)] 34 (by kernel_rfl) (fun w _ => by kernel_rfl) ?_
  intro b1 hb1 Hb1
  refine S_newv (fun nb0 => pt nb0 0) [.int .u64 0, .int .u64 0, .int .u64 0, .int .u64 0] 34 (by kernel_rfl) (fun w _ => by kernel_rfl) ?_
  intro b2 hb2 Hb2
  refine S_nil ?_
  refine E_then ?_
  refine C_seq ?_
  refine C_seq ?_
  refine C_region ?_
  refine S_v (pt b1 3) ?_
  refine S_val (wd (lb n 3)) (by kernel_rfl) (ld1 1 b1 3 [wd (lb n 0), wd (lb n 1), wd (lb n 2), wd (lb n 3)] 34 rfl (by kernel_rfl) Tryd.isAgg29 (by kernel_rfl) (by kernel_rfl)) ?_
  refine S_v (.bool (decide (((lb n 3 : Nat) : Int) < 1152921504606846976))) ?_
  refine S_nil ?_
  refine E_then ?_
  refine C_if (decide (((lb n 3 : Nat) : Int) < 1152921504606846976)) (by kernel_rfl) (fun hc => ?_) (fun hc => ?_)
  · replace hc := of_decide_eq_true hc
    refine C_seq ?_
    refine C_region ?_
    refine S_val (sc4 n) (by kernel_rfl) (ldN [wd (lb n 0), wd (lb n 1), wd (lb n 2), wd (lb n 3)] 1 b1 0 [wd (lb n 0), wd (lb n 1), wd (lb n 2), wd (lb n 3)] 34 rfl (by kernel_rfl) Tryd.isAgg34 Tryd.sizeOf34 (by kernel_rfl) (by kernel_rfl)) ?_
    refine S_do (by kernel_rfl) (stN (L' := [⟨b2, [wd (lb n 0), wd (lb n 1), wd (lb n 2), wd (lb n 3)], 34⟩, ⟨b1, [wd (lb n 0), wd (lb n 1), wd (lb n 2), wd (lb n 3)], 34⟩]) [wd (lb n 0), wd (lb n 1), wd (lb n 2), wd (lb n 3)] 0 b2 0 [.int .u64 0, .int .u64 0, .int .u64 0, .int .u64 0] 34 rfl (by kernel_rfl) (by kernel_rfl) Tryd.sizeOf34 (by simp [Value.oneCell']) (by kernel_rfl) (by simp) (by kernel_rfl)) ?_
    refine S_nil ?_
    refine E_then ?_
    refine C_ret ?_
    refine E_pass_ret ?_
    rw [least_small n (by have := lb_sum n hn; have := lb_lt n 0; have := lb_lt n 1; have := lb_lt n 2; omega)]
    exact pure_ret rfl (resC Tryd.results30 [wd (lb n 0), wd (lb n 1), wd (lb n 2), wd (lb n 3)] 0 b2 34 (by kernel_rfl) Tryd.isAgg34 Tryd.sizeOf34 (by kernel_rfl))
  · replace hc := of_decide_eq_false hc
    refine C_skip ?_
    refine E_then ?_
    refine C_seq ?_
    refine C_region ?_
    refine S_v (pt b1 3) ?_
    refine S_val (wd (lb n 3)) (by kernel_rfl) (ld1 1 b1 3 [wd (lb n 0), wd (lb n 1), wd (lb n 2), wd (lb n 3)] 34 rfl (by kernel_rfl) Tryd.isAgg29 (by kernel_rfl) (by kernel_rfl)) ?_
    obtain ⟨x3, hx3⟩ : ∃ q, q = (lb n 3) / 2 ^ 60 := ⟨_, rfl⟩
    have lx3 : x3 < 18446744073709551616 := by rw [hx3]; exact Nat.lt_of_le_of_lt (Nat.div_le_self _ _) (lb_lt n 3)
    refine S_val (wd x3) (by kernel_rfl) (fun _ _ => fv (v := .int .u64 (((lb n 3 : Nat) : Int).fdiv (2 ^ 60))) ((vint (hx3 ▸ u_shr (lb n 3) 60))) (by kernel_rfl)) ?_
    refine S_v (wd x3) ?_
    refine S_nil ?_
    refine E_then ?_
    refine C_seq ?_
    refine C_region ?_
    refine S_v (pt b1 3) ?_
    refine S_val (wd (lb n 3)) (by kernel_rfl) (ld1 1 b1 3 [wd (lb n 0), wd (lb n 1), wd (lb n 2), wd (lb n 3)] 34 rfl (by kernel_rfl) Tryd.isAgg29 (by kernel_rfl) (by kernel_rfl)) ?_
    obtain ⟨x4, hx4, lx4, mx4⟩ : ∃ q, q = (lb n 3) % 2 ^ 60 ∧ q < 18446744073709551616 ∧ q < 2 ^ 60 := ⟨_, rfl, by omega, Nat.mod_lt _ (by decide)⟩
    refine S_val (wd x4) (by kernel_rfl) (fun _ _ => fv (v := .int .u64 (IntKind.u64.wrap (((BitVec.ofInt IntKind.u64.bits ((lb n 3 : Nat) : Int)) &&& (BitVec.ofInt IntKind.u64.bits 1152921504606846975)).toNat : Int))) ((vint (hx4 ▸ u_and_mask (lb n 3) 60 (lb_lt n 3) (by decide)))) (by kernel_rfl)) ?_
    refine S_v (pt b1 3) ?_
    refine S_do (by kernel_rfl) (st1 (v := wd x4) (L' := [⟨b2, [.int .u64 0, .int .u64 0, .int .u64 0, .int .u64 0], 34⟩, ⟨b1, [wd (lb n 0), wd (lb n 1), wd (lb n 2), wd x4], 34⟩]) 1 b1 3 [wd (lb n 0), wd (lb n 1), wd (lb n 2), wd (lb n 3)] 34 rfl (by kernel_rfl) (by kernel_rfl) Tryd.sizeOf29 (by rfl) (by kernel_rfl) (by simp) (by kernel_rfl)) ?_
    refine S_nil ?_
    refine E_then ?_
    refine C_seq ?_
    refine C_region ?_
    refine S_newv (fun nb0 => pt nb0 0) [.int .u64 0, .int .u64 0, .int .u64 0, .int .u64 0] 34 (by kernel_rfl) (fun w _ => by kernel_rfl) ?_
    intro b5 hb5 Hb5
    refine S_nil ?_
    refine E_then ?_
    refine C_seq ?_
    refine C_region ?_
    refine S_v (wd x3) ?_
    refine S_v (pt 0 0) ?_
    refine S_v (pt 0 0) ?_
    refine S_val (.int .u64 6346243789798364141) (by kernel_rfl) (ld1o (v := .int .u64 6346243789798364141) 0 0 rfl (by kernel_rfl) Tryd.isAgg29 (hT.at 0 (by kernel_rfl))) ?_
    obtain ⟨x6, x7, hx6, hx7, lx6, lx7, px6⟩ := mul64_ex x3 6346243789798364141 lx3 (by decide)
    refine S_pure (v := .tuple #[wd x6, wd x7]) (by kernel_rfl) px6 (fun _ => by kernel_rfl) ?_
    refine S_v (.tuple #[wd x6, wd x7]) ?_
    refine S_v (wd x6) ?_
    refine S_v (wd x7) ?_
    refine S_v (wd x6) ?_
    refine S_v (wd x7) ?_
    refine S_nil ?_
    refine E_then ?_
    refine C_seq ?_
    refine C_region ?_
    refine S_v (wd x7) ?_
    refine S_v (pt b5 0) ?_
    refine S_do (by kernel_rfl) (st1 (v := wd x7) (L' := [⟨b5, [wd x7, .int .u64 0, .int .u64 0, .int .u64 0], 34⟩, ⟨b2, [.int .u64 0, .int .u64 0, .int .u64 0, .int .u64 0], 34⟩, ⟨b1, [wd (lb n 0), wd (lb n 1), wd (lb n 2), wd x4], 34⟩]) 0 b5 0 [.int .u64 0, .int .u64 0, .int .u64 0, .int .u64 0] 34 rfl (by kernel_rfl) (by kernel_rfl) Tryd.sizeOf29 (by rfl) (by kernel_rfl) (by simp) (by kernel_rfl)) ?_
    refine S_nil ?_
    refine E_then ?_
    refine C_seq ?_
    refine C_region ?_
    refine S_v (wd x3) ?_
    refine S_v (pt 0 0) ?_
    refine S_v (pt 0 1) ?_
    refine S_val (.int .u64 1503914060200516822) (by kernel_rfl) (ld1o (v := .int .u64 1503914060200516822) 0 1 rfl (by kernel_rfl) Tryd.isAgg29 (hT.at 1 (by kernel_rfl))) ?_
    obtain ⟨x8, x9, hx8, hx9, lx8, lx9, px8⟩ := mul64_ex x3 1503914060200516822 lx3 (by decide)
    refine S_pure (v := .tuple #[wd x8, wd x9]) (by kernel_rfl) px8 (fun _ => by kernel_rfl) ?_
    refine S_v (.tuple #[wd x8, wd x9]) ?_
    refine S_v (wd x8) ?_
    refine S_v (wd x9) ?_
    refine S_v (wd x8) ?_
    refine S_v (wd x9) ?_
    refine S_nil ?_
    refine E_then ?_
    refine C_seq ?_
    refine C_region ?_
    refine S_v (.int .u64 0) ?_
    refine S_nil ?_
    refine E_then ?_
    refine C_seq ?_
    refine C_region ?_
    refine S_v (wd x9) ?_
    refine S_v (wd x6) ?_
    obtain ⟨x10, k11, ex10, lx10, ok11, hx10, hk11⟩ := addc_ex x9 x6 0 lx9 lx6 (by decide)
    refine S_val (.tuple #[wd x10, wd k11]) (by kernel_rfl) (fun w _ => fv (v := .tuple #[wd ((x9 + x6 + 0) % 18446744073709551616), wd ((x9 + x6 + 0) / 18446744073709551616)]) (by rw [hx10, hk11]) ((clv (x := .func 52) rfl (by kernel_rfl) (by kernel_rfl) (by kernel_rfl) (x_add x9 x6 0 (by decide))) w)) ?_
    refine S_v (.tuple #[wd x10, wd k11]) ?_
    refine S_v (wd x10) ?_
    refine S_v (wd k11) ?_
    refine S_v (pt b5 1) ?_
    refine S_do (by kernel_rfl) (st1 (v := wd x10) (L' := [⟨b5, [wd x7, wd x10, .int .u64 0, .int .u64 0], 34⟩, ⟨b2, [.int .u64 0, .int .u64 0, .int .u64 0, .int .u64 0], 34⟩, ⟨b1, [wd (lb n 0), wd (lb n 1), wd (lb n 2), wd x4], 34⟩]) 0 b5 1 [wd x7, .int .u64 0, .int .u64 0, .int .u64 0] 34 rfl (by kernel_rfl) (by kernel_rfl) Tryd.sizeOf29 (by rfl) (by kernel_rfl) (by simp) (by kernel_rfl)) ?_
    refine S_v (wd k11) ?_
    refine S_nil ?_
    refine E_then ?_
    refine C_seq ?_
    refine C_region ?_
    refine S_v (wd x8) ?_
    refine S_v (wd k11) ?_
    obtain ⟨x12, hx12, lx12⟩ : ∃ q, q = (x8 + k11) % 18446744073709551616 ∧ q < 18446744073709551616 := ⟨_, rfl, Nat.mod_lt _ (by decide)⟩
    refine S_val (wd x12) (by kernel_rfl) (fun _ _ => fv (v := .int .u64 (IntKind.u64.wrap (((x8 : Nat) : Int) + ((k11 : Nat) : Int)))) ((vint (hx12 ▸ u_add x8 k11))) (by kernel_rfl)) ?_
    refine S_v (pt b5 2) ?_
    refine S_do (by kernel_rfl) (st1 (v := wd x12) (L' := [⟨b5, [wd x7, wd x10, wd x12, .int .u64 0], 34⟩, ⟨b2, [.int .u64 0, .int .u64 0, .int .u64 0, .int .u64 0], 34⟩, ⟨b1, [wd (lb n 0), wd (lb n 1), wd (lb n 2), wd x4], 34⟩]) 0 b5 2 [wd x7, wd x10, .int .u64 0, .int .u64 0] 34 rfl (by kernel_rfl) (by kernel_rfl) Tryd.sizeOf29 (by rfl) (by kernel_rfl) (by simp) (by kernel_rfl)) ?_
    refine S_nil ?_
    refine E_then ?_
    refine C_seq ?_
    refine C_region ?_
    have hS := lb_sum n hn
    have hl3 := lb_lt n 3
    have J1 := sc_join (lb_lt n 0) (lb_lt n 1) (lb_lt n 2) lx4 (n := n % 7237005577332262213973186563042994240829374041602535252466099000494570602496) (by have := lb_lt n 0; have := lb_lt n 1; have := lb_lt n 2; clear hS; unfold lb at *; omega)
    have hq : x3 = n / 7237005577332262213973186563042994240829374041602535252466099000494570602496 := by rw [hx3]; exact lb3_div n hn
    have hq15 : x3 ≤ 15 := by omega
    have f1 : x7 + 18446744073709551616 * x6 = x3 * 6346243789798364141 := by omega
    have f2 : x9 + 18446744073709551616 * x8 = x3 * 1503914060200516822 := by omega
    have f3 : x8 ≤ 1 := by omega
    have f4 : x12 = x8 + k11 := by omega
    have f5 := ex10
    have J2 := sc_join lx7 lx10 lx12 (by decide : 0 < 18446744073709551616) (n := x3 * 27742317777372353535851937790883648493) (by clear hS hq J1; rw [f4]; omega)
    have hA : n % 7237005577332262213973186563042994240829374041602535252466099000494570602496 < W256 := by unfold W256; omega
    have hC : x3 * 27742317777372353535851937790883648493 < W256 := by unfold W256; omega
    refine S_val (.agg #[wd (lb n 0), wd (lb n 1), wd (lb n 2), wd x4]) (by kernel_rfl) (ldN [wd (lb n 0), wd (lb n 1), wd (lb n 2), wd x4] 2 b1 0 [wd (lb n 0), wd (lb n 1), wd (lb n 2), wd x4] 34 rfl (by kernel_rfl) Tryd.isAgg34 Tryd.sizeOf34 (by kernel_rfl) (by kernel_rfl)) ?_
    refine S_val (.agg #[wd x7, wd x10, wd x12, .int .u64 0]) (by kernel_rfl) (ldN [wd x7, wd x10, wd x12, .int .u64 0] 0 b5 0 [wd x7, wd x10, wd x12, .int .u64 0] 34 rfl (by kernel_rfl) Tryd.isAgg34 Tryd.sizeOf34 (by kernel_rfl) (by kernel_rfl)) ?_
    have hC13 := (c_minus (n % 7237005577332262213973186563042994240829374041602535252466099000494570602496) (x3 * 27742317777372353535851937790883648493) hA hC)
    rw [J1, J2] at hC13
    refine S_pure (v := .tuple #[sc4 (mi (n % 7237005577332262213973186563042994240829374041602535252466099000494570602496) (x3 * 27742317777372353535851937790883648493)), wd (bw (n % 7237005577332262213973186563042994240829374041602535252466099000494570602496) (x3 * 27742317777372353535851937790883648493))]) (by kernel_rfl) hC13 (fun _ => by kernel_rfl) ?_
    refine S_v (.tuple #[sc4 (mi (n % 7237005577332262213973186563042994240829374041602535252466099000494570602496) (x3 * 27742317777372353535851937790883648493)), wd (bw (n % 7237005577332262213973186563042994240829374041602535252466099000494570602496) (x3 * 27742317777372353535851937790883648493))]) ?_
    refine S_v (sc4 (mi (n % 7237005577332262213973186563042994240829374041602535252466099000494570602496) (x3 * 27742317777372353535851937790883648493))) ?_
    refine S_v (wd (bw (n % 7237005577332262213973186563042994240829374041602535252466099000494570602496) (x3 * 27742317777372353535851937790883648493))) ?_
    refine S_newv (fun nb0 => pt nb0 0) [.int .u64 0, .int .u64 0, .int .u64 0, .int .u64 0] 34 (by kernel_rfl) (fun w _ => by kernel_rfl) ?_
    intro b14 hb14 Hb14
    refine S_do (by kernel_rfl) (stN (L' := [⟨b14, [wd (lb (mi (n % 7237005577332262213973186563042994240829374041602535252466099000494570602496) (x3 * 27742317777372353535851937790883648493)) 0), wd (lb (mi (n % 7237005577332262213973186563042994240829374041602535252466099000494570602496) (x3 * 27742317777372353535851937790883648493)) 1), wd (lb (mi (n % 7237005577332262213973186563042994240829374041602535252466099000494570602496) (x3 * 27742317777372353535851937790883648493)) 2), wd (lb (mi (n % 7237005577332262213973186563042994240829374041602535252466099000494570602496) (x3 * 27742317777372353535851937790883648493)) 3)], 34⟩, ⟨b5, [wd x7, wd x10, wd x12, .int .u64 0], 34⟩, ⟨b2, [.int .u64 0, .int .u64 0, .int .u64 0, .int .u64 0], 34⟩, ⟨b1, [wd (lb n 0), wd (lb n 1), wd (lb n 2), wd x4], 34⟩]) [wd (lb (mi (n % 7237005577332262213973186563042994240829374041602535252466099000494570602496) (x3 * 27742317777372353535851937790883648493)) 0), wd (lb (mi (n % 7237005577332262213973186563042994240829374041602535252466099000494570602496) (x3 * 27742317777372353535851937790883648493)) 1), wd (lb (mi (n % 7237005577332262213973186563042994240829374041602535252466099000494570602496) (x3 * 27742317777372353535851937790883648493)) 2), wd (lb (mi (n % 7237005577332262213973186563042994240829374041602535252466099000494570602496) (x3 * 27742317777372353535851937790883648493)) 3)] 0 b14 0 [.int .u64 0, .int .u64 0, .int .u64 0, .int .u64 0] 34 rfl (by kernel_rfl) (by kernel_rfl) Tryd.sizeOf34 (by simp [Value.oneCell']) (by kernel_rfl) (by simp) (by kernel_rfl)) ?_
    refine S_v (wd (bw (n % 7237005577332262213973186563042994240829374041602535252466099000494570602496) (x3 * 27742317777372353535851937790883648493))) ?_
    refine S_nil ?_
    refine E_then ?_
    refine C_seq ?_
    refine C_region ?_
    refine S_val (sc4 (mi (n % 7237005577332262213973186563042994240829374041602535252466099000494570602496) (x3 * 27742317777372353535851937790883648493))) (by kernel_rfl) (ldN [wd (lb (mi (n % 7237005577332262213973186563042994240829374041602535252466099000494570602496) (x3 * 27742317777372353535851937790883648493)) 0), wd (lb (mi (n % 7237005577332262213973186563042994240829374041602535252466099000494570602496) (x3 * 27742317777372353535851937790883648493)) 1), wd (lb (mi (n % 7237005577332262213973186563042994240829374041602535252466099000494570602496) (x3 * 27742317777372353535851937790883648493)) 2), wd (lb (mi (n % 7237005577332262213973186563042994240829374041602535252466099000494570602496) (x3 * 27742317777372353535851937790883648493)) 3)] 0 b14 0 [wd (lb (mi (n % 7237005577332262213973186563042994240829374041602535252466099000494570602496) (x3 * 27742317777372353535851937790883648493)) 0), wd (lb (mi (n % 7237005577332262213973186563042994240829374041602535252466099000494570602496) (x3 * 27742317777372353535851937790883648493)) 1), wd (lb (mi (n % 7237005577332262213973186563042994240829374041602535252466099000494570602496) (x3 * 27742317777372353535851937790883648493)) 2), wd (lb (mi (n % 7237005577332262213973186563042994240829374041602535252466099000494570602496) (x3 * 27742317777372353535851937790883648493)) 3)] 34 rfl (by kernel_rfl) Tryd.isAgg34 Tryd.sizeOf34 (by kernel_rfl) (by kernel_rfl)) ?_
    refine S_v (pt 0 0) ?_
    refine S_val (.agg #[.int .u64 6346243789798364141, .int .u64 1503914060200516822, .int .u64 0, .int .u64 1152921504606846976]) (by kernel_rfl) (ldNo [.int .u64 6346243789798364141, .int .u64 1503914060200516822, .int .u64 0, .int .u64 1152921504606846976] 0 0 rfl (by kernel_rfl) Tryd.isAgg34 Tryd.sizeOf34 (hT.sub 0 [.int .u64 6346243789798364141, .int .u64 1503914060200516822, .int .u64 0, .int .u64 1152921504606846976] (by kernel_rfl))) ?_
    refine S_pure (v := .tuple #[sc4 (pl (mi (n % 7237005577332262213973186563042994240829374041602535252466099000494570602496) (x3 * 27742317777372353535851937790883648493)) ll), wd (((mi (n % 7237005577332262213973186563042994240829374041602535252466099000494570602496) (x3 * 27742317777372353535851937790883648493)) + ll) / W256)]) (by kernel_rfl) (c_plus (mi (n % 7237005577332262213973186563042994240829374041602535252466099000494570602496) (x3 * 27742317777372353535851937790883648493)) ll (mi_lt _ _) (by decide)) (fun _ => by kernel_rfl) ?_
    refine S_v (.tuple #[sc4 (pl (mi (n % 7237005577332262213973186563042994240829374041602535252466099000494570602496) (x3 * 27742317777372353535851937790883648493)) ll), wd (((mi (n % 7237005577332262213973186563042994240829374041602535252466099000494570602496) (x3 * 27742317777372353535851937790883648493)) + ll) / W256)]) ?_
    refine S_v (sc4 (pl (mi (n % 7237005577332262213973186563042994240829374041602535252466099000494570602496) (x3 * 27742317777372353535851937790883648493)) ll)) ?_
    refine S_v (wd (((mi (n % 7237005577332262213973186563042994240829374041602535252466099000494570602496) (x3 * 27742317777372353535851937790883648493)) + ll) / W256)) ?_
    refine S_newv (fun nb0 => pt nb0 0) [.int .u64 0, .int .u64 0, .int .u64 0, .int .u64 0] 34 (by kernel_rfl) (fun w _ => by kernel_rfl) ?_
    intro b15 hb15 Hb15
    refine S_do (by kernel_rfl) (stN (L' := [⟨b15, [wd (lb (pl (mi (n % 7237005577332262213973186563042994240829374041602535252466099000494570602496) (x3 * 27742317777372353535851937790883648493)) ll) 0), wd (lb (pl (mi (n % 7237005577332262213973186563042994240829374041602535252466099000494570602496) (x3 * 27742317777372353535851937790883648493)) ll) 1), wd (lb (pl (mi (n % 7237005577332262213973186563042994240829374041602535252466099000494570602496) (x3 * 27742317777372353535851937790883648493)) ll) 2), wd (lb (pl (mi (n % 7237005577332262213973186563042994240829374041602535252466099000494570602496) (x3 * 27742317777372353535851937790883648493)) ll) 3)], 34⟩, ⟨b14, [wd (lb (mi (n % 7237005577332262213973186563042994240829374041602535252466099000494570602496) (x3 * 27742317777372353535851937790883648493)) 0), wd (lb (mi (n % 7237005577332262213973186563042994240829374041602535252466099000494570602496) (x3 * 27742317777372353535851937790883648493)) 1), wd (lb (mi (n % 7237005577332262213973186563042994240829374041602535252466099000494570602496) (x3 * 27742317777372353535851937790883648493)) 2), wd (lb (mi (n % 7237005577332262213973186563042994240829374041602535252466099000494570602496) (x3 * 27742317777372353535851937790883648493)) 3)], 34⟩, ⟨b5, [wd x7, wd x10, wd x12, .int .u64 0], 34⟩, ⟨b2, [.int .u64 0, .int .u64 0, .int .u64 0, .int .u64 0], 34⟩, ⟨b1, [wd (lb n 0), wd (lb n 1), wd (lb n 2), wd x4], 34⟩]) [wd (lb (pl (mi (n % 7237005577332262213973186563042994240829374041602535252466099000494570602496) (x3 * 27742317777372353535851937790883648493)) ll) 0), wd (lb (pl (mi (n % 7237005577332262213973186563042994240829374041602535252466099000494570602496) (x3 * 27742317777372353535851937790883648493)) ll) 1), wd (lb (pl (mi (n % 7237005577332262213973186563042994240829374041602535252466099000494570602496) (x3 * 27742317777372353535851937790883648493)) ll) 2), wd (lb (pl (mi (n % 7237005577332262213973186563042994240829374041602535252466099000494570602496) (x3 * 27742317777372353535851937790883648493)) ll) 3)] 0 b15 0 [.int .u64 0, .int .u64 0, .int .u64 0, .int .u64 0] 34 rfl (by kernel_rfl) (by kernel_rfl) Tryd.sizeOf34 (by simp [Value.oneCell']) (by kernel_rfl) (by simp) (by kernel_rfl)) ?_
    refine S_v (wd (((mi (n % 7237005577332262213973186563042994240829374041602535252466099000494570602496) (x3 * 27742317777372353535851937790883648493)) + ll) / W256)) ?_
    refine S_nil ?_
    refine E_then ?_
    refine C_seq ?_
    refine C_region ?_
    refine S_v (wd (bw (n % 7237005577332262213973186563042994240829374041602535252466099000494570602496) (x3 * 27742317777372353535851937790883648493))) ?_
    obtain ⟨x16, hx16, lx16⟩ : ∃ q, q = (18446744073709551616 - (bw (n % 7237005577332262213973186563042994240829374041602535252466099000494570602496) (x3 * 27742317777372353535851937790883648493))) % 18446744073709551616 ∧ q < 18446744073709551616 := ⟨_, rfl, Nat.mod_lt _ (by decide)⟩
    refine S_val (wd x16) (by kernel_rfl) (fun _ _ => fv (v := .int .u64 (IntKind.u64.wrap (0 - ((bw (n % 7237005577332262213973186563042994240829374041602535252466099000494570602496) (x3 * 27742317777372353535851937790883648493) : Nat) : Int)))) ((vint (hx16 ▸ u_neg (bw (n % 7237005577332262213973186563042994240829374041602535252466099000494570602496) (x3 * 27742317777372353535851937790883648493)) (by have := (bw_lt64 (n % 7237005577332262213973186563042994240829374041602535252466099000494570602496) (x3 * 27742317777372353535851937790883648493)); omega)))) (by kernel_rfl)) ?_
    refine S_val (sc4 (pl (mi (n % 7237005577332262213973186563042994240829374041602535252466099000494570602496) (x3 * 27742317777372353535851937790883648493)) ll)) (by kernel_rfl) (ldN [wd (lb (pl (mi (n % 7237005577332262213973186563042994240829374041602535252466099000494570602496) (x3 * 27742317777372353535851937790883648493)) ll) 0), wd (lb (pl (mi (n % 7237005577332262213973186563042994240829374041602535252466099000494570602496) (x3 * 27742317777372353535851937790883648493)) ll) 1), wd (lb (pl (mi (n % 7237005577332262213973186563042994240829374041602535252466099000494570602496) (x3 * 27742317777372353535851937790883648493)) ll) 2), wd (lb (pl (mi (n % 7237005577332262213973186563042994240829374041602535252466099000494570602496) (x3 * 27742317777372353535851937790883648493)) ll) 3)] 0 b15 0 [wd (lb (pl (mi (n % 7237005577332262213973186563042994240829374041602535252466099000494570602496) (x3 * 27742317777372353535851937790883648493)) ll) 0), wd (lb (pl (mi (n % 7237005577332262213973186563042994240829374041602535252466099000494570602496) (x3 * 27742317777372353535851937790883648493)) ll) 1), wd (lb (pl (mi (n % 7237005577332262213973186563042994240829374041602535252466099000494570602496) (x3 * 27742317777372353535851937790883648493)) ll) 2), wd (lb (pl (mi (n % 7237005577332262213973186563042994240829374041602535252466099000494570602496) (x3 * 27742317777372353535851937790883648493)) ll) 3)] 34 rfl (by kernel_rfl) Tryd.isAgg34 Tryd.sizeOf34 (by kernel_rfl) (by kernel_rfl)) ?_
    refine S_val (sc4 (mi (n % 7237005577332262213973186563042994240829374041602535252466099000494570602496) (x3 * 27742317777372353535851937790883648493))) (by kernel_rfl) (ldN [wd (lb (mi (n % 7237005577332262213973186563042994240829374041602535252466099000494570602496) (x3 * 27742317777372353535851937790883648493)) 0), wd (lb (mi (n % 7237005577332262213973186563042994240829374041602535252466099000494570602496) (x3 * 27742317777372353535851937790883648493)) 1), wd (lb (mi (n % 7237005577332262213973186563042994240829374041602535252466099000494570602496) (x3 * 27742317777372353535851937790883648493)) 2), wd (lb (mi (n % 7237005577332262213973186563042994240829374041602535252466099000494570602496) (x3 * 27742317777372353535851937790883648493)) 3)] 1 b14 0 [wd (lb (mi (n % 7237005577332262213973186563042994240829374041602535252466099000494570602496) (x3 * 27742317777372353535851937790883648493)) 0), wd (lb (mi (n % 7237005577332262213973186563042994240829374041602535252466099000494570602496) (x3 * 27742317777372353535851937790883648493)) 1), wd (lb (mi (n % 7237005577332262213973186563042994240829374041602535252466099000494570602496) (x3 * 27742317777372353535851937790883648493)) 2), wd (lb (mi (n % 7237005577332262213973186563042994240829374041602535252466099000494570602496) (x3 * 27742317777372353535851937790883648493)) 3)] 34 rfl (by kernel_rfl) Tryd.isAgg34 Tryd.sizeOf34 (by kernel_rfl) (by kernel_rfl)) ?_
    refine S_pure (v := sc4 (if bw (n % 7237005577332262213973186563042994240829374041602535252466099000494570602496) (x3 * 27742317777372353535851937790883648493) = 1 then (pl (mi (n % 7237005577332262213973186563042994240829374041602535252466099000494570602496) (x3 * 27742317777372353535851937790883648493)) ll) else (mi (n % 7237005577332262213973186563042994240829374041602535252466099000494570602496) (x3 * 27742317777372353535851937790883648493)))) (by kernel_rfl) (c_choose (bw (n % 7237005577332262213973186563042994240829374041602535252466099000494570602496) (x3 * 27742317777372353535851937790883648493)) x16 (pl (mi (n % 7237005577332262213973186563042994240829374041602535252466099000494570602496) (x3 * 27742317777372353535851937790883648493)) ll) (mi (n % 7237005577332262213973186563042994240829374041602535252466099000494570602496) (x3 * 27742317777372353535851937790883648493)) (bw_le _ _) hx16) (fun _ => by kernel_rfl) ?_
    refine S_call (by kernel_rfl) (fun _ _ => by kernel_rfl) (fun w hO => ((c_lower w (hT.own hO) (if bw (n % 7237005577332262213973186563042994240829374041602535252466099000494570602496) (x3 * 27742317777372353535851937790883648493) = 1 then (pl (mi (n % 7237005577332262213973186563042994240829374041602535252466099000494570602496) (x3 * 27742317777372353535851937790883648493)) ll) else (mi (n % 7237005577332262213973186563042994240829374041602535252466099000494570602496) (x3 * 27742317777372353535851937790883648493))) (ite256 _ (pl_lt _ _) (mi_lt _ _)))).mono fun _ _ ⟨he, hb⟩ => ⟨sc4 (low (if bw (n % 7237005577332262213973186563042994240829374041602535252466099000494570602496) (x3 * 27742317777372353535851937790883648493) = 1 then (pl (mi (n % 7237005577332262213973186563042994240829374041602535252466099000494570602496) (x3 * 27742317777372353535851937790883648493)) ll) else (mi (n % 7237005577332262213973186563042994240829374041602535252466099000494570602496) (x3 * 27742317777372353535851937790883648493)))), _, he, hO.call hb, ?_⟩)
    refine S_do (by kernel_rfl) (stN (L' := [⟨b15, [wd (lb (pl (mi (n % 7237005577332262213973186563042994240829374041602535252466099000494570602496) (x3 * 27742317777372353535851937790883648493)) ll) 0), wd (lb (pl (mi (n % 7237005577332262213973186563042994240829374041602535252466099000494570602496) (x3 * 27742317777372353535851937790883648493)) ll) 1), wd (lb (pl (mi (n % 7237005577332262213973186563042994240829374041602535252466099000494570602496) (x3 * 27742317777372353535851937790883648493)) ll) 2), wd (lb (pl (mi (n % 7237005577332262213973186563042994240829374041602535252466099000494570602496) (x3 * 27742317777372353535851937790883648493)) ll) 3)], 34⟩, ⟨b14, [wd (lb (mi (n % 7237005577332262213973186563042994240829374041602535252466099000494570602496) (x3 * 27742317777372353535851937790883648493)) 0), wd (lb (mi (n % 7237005577332262213973186563042994240829374041602535252466099000494570602496) (x3 * 27742317777372353535851937790883648493)) 1), wd (lb (mi (n % 7237005577332262213973186563042994240829374041602535252466099000494570602496) (x3 * 27742317777372353535851937790883648493)) 2), wd (lb (mi (n % 7237005577332262213973186563042994240829374041602535252466099000494570602496) (x3 * 27742317777372353535851937790883648493)) 3)], 34⟩, ⟨b5, [wd x7, wd x10, wd x12, .int .u64 0], 34⟩, ⟨b2, [wd (lb (low (if bw (n % 7237005577332262213973186563042994240829374041602535252466099000494570602496) (x3 * 27742317777372353535851937790883648493) = 1 then (pl (mi (n % 7237005577332262213973186563042994240829374041602535252466099000494570602496) (x3 * 27742317777372353535851937790883648493)) ll) else (mi (n % 7237005577332262213973186563042994240829374041602535252466099000494570602496) (x3 * 27742317777372353535851937790883648493)))) 0), wd (lb (low (if bw (n % 7237005577332262213973186563042994240829374041602535252466099000494570602496) (x3 * 27742317777372353535851937790883648493) = 1 then (pl (mi (n % 7237005577332262213973186563042994240829374041602535252466099000494570602496) (x3 * 27742317777372353535851937790883648493)) ll) else (mi (n % 7237005577332262213973186563042994240829374041602535252466099000494570602496) (x3 * 27742317777372353535851937790883648493)))) 1), wd (lb (low (if bw (n % 7237005577332262213973186563042994240829374041602535252466099000494570602496) (x3 * 27742317777372353535851937790883648493) = 1 then (pl (mi (n % 7237005577332262213973186563042994240829374041602535252466099000494570602496) (x3 * 27742317777372353535851937790883648493)) ll) else (mi (n % 7237005577332262213973186563042994240829374041602535252466099000494570602496) (x3 * 27742317777372353535851937790883648493)))) 2), wd (lb (low (if bw (n % 7237005577332262213973186563042994240829374041602535252466099000494570602496) (x3 * 27742317777372353535851937790883648493) = 1 then (pl (mi (n % 7237005577332262213973186563042994240829374041602535252466099000494570602496) (x3 * 27742317777372353535851937790883648493)) ll) else (mi (n % 7237005577332262213973186563042994240829374041602535252466099000494570602496) (x3 * 27742317777372353535851937790883648493)))) 3)], 34⟩, ⟨b1, [wd (lb n 0), wd (lb n 1), wd (lb n 2), wd x4], 34⟩]) [wd (lb (low (if bw (n % 7237005577332262213973186563042994240829374041602535252466099000494570602496) (x3 * 27742317777372353535851937790883648493) = 1 then (pl (mi (n % 7237005577332262213973186563042994240829374041602535252466099000494570602496) (x3 * 27742317777372353535851937790883648493)) ll) else (mi (n % 7237005577332262213973186563042994240829374041602535252466099000494570602496) (x3 * 27742317777372353535851937790883648493)))) 0), wd (lb (low (if bw (n % 7237005577332262213973186563042994240829374041602535252466099000494570602496) (x3 * 27742317777372353535851937790883648493) = 1 then (pl (mi (n % 7237005577332262213973186563042994240829374041602535252466099000494570602496) (x3 * 27742317777372353535851937790883648493)) ll) else (mi (n % 7237005577332262213973186563042994240829374041602535252466099000494570602496) (x3 * 27742317777372353535851937790883648493)))) 1), wd (lb (low (if bw (n % 7237005577332262213973186563042994240829374041602535252466099000494570602496) (x3 * 27742317777372353535851937790883648493) = 1 then (pl (mi (n % 7237005577332262213973186563042994240829374041602535252466099000494570602496) (x3 * 27742317777372353535851937790883648493)) ll) else (mi (n % 7237005577332262213973186563042994240829374041602535252466099000494570602496) (x3 * 27742317777372353535851937790883648493)))) 2), wd (lb (low (if bw (n % 7237005577332262213973186563042994240829374041602535252466099000494570602496) (x3 * 27742317777372353535851937790883648493) = 1 then (pl (mi (n % 7237005577332262213973186563042994240829374041602535252466099000494570602496) (x3 * 27742317777372353535851937790883648493)) ll) else (mi (n % 7237005577332262213973186563042994240829374041602535252466099000494570602496) (x3 * 27742317777372353535851937790883648493)))) 3)] 3 b2 0 [.int .u64 0, .int .u64 0, .int .u64 0, .int .u64 0] 34 rfl (by kernel_rfl) (by kernel_rfl) Tryd.sizeOf34 (by simp [Value.oneCell']) (by kernel_rfl) (by simp) (by kernel_rfl)) ?_
    refine S_nil ?_
    refine E_then ?_
    refine C_ret ?_
    rw [← least_law n x3 _ hn hq rfl]
    exact pure_ret rfl (resC Tryd.results30 [wd (lb (low (if bw (n % 7237005577332262213973186563042994240829374041602535252466099000494570602496) (x3 * 27742317777372353535851937790883648493) = 1 then (pl (mi (n % 7237005577332262213973186563042994240829374041602535252466099000494570602496) (x3 * 27742317777372353535851937790883648493)) ll) else (mi (n % 7237005577332262213973186563042994240829374041602535252466099000494570602496) (x3 * 27742317777372353535851937790883648493)))) 0), wd (lb (low (if bw (n % 7237005577332262213973186563042994240829374041602535252466099000494570602496) (x3 * 27742317777372353535851937790883648493) = 1 then (pl (mi (n % 7237005577332262213973186563042994240829374041602535252466099000494570602496) (x3 * 27742317777372353535851937790883648493)) ll) else (mi (n % 7237005577332262213973186563042994240829374041602535252466099000494570602496) (x3 * 27742317777372353535851937790883648493)))) 1), wd (lb (low (if bw (n % 7237005577332262213973186563042994240829374041602535252466099000494570602496) (x3 * 27742317777372353535851937790883648493) = 1 then (pl (mi (n % 7237005577332262213973186563042994240829374041602535252466099000494570602496) (x3 * 27742317777372353535851937790883648493)) ll) else (mi (n % 7237005577332262213973186563042994240829374041602535252466099000494570602496) (x3 * 27742317777372353535851937790883648493)))) 2), wd (lb (low (if bw (n % 7237005577332262213973186563042994240829374041602535252466099000494570602496) (x3 * 27742317777372353535851937790883648493) = 1 then (pl (mi (n % 7237005577332262213973186563042994240829374041602535252466099000494570602496) (x3 * 27742317777372353535851937790883648493)) ll) else (mi (n % 7237005577332262213973186563042994240829374041602535252466099000494570602496) (x3 * 27742317777372353535851937790883648493)))) 3)] 3 b2 34 (by kernel_rfl) Tryd.isAgg34 Tryd.sizeOf34 (by kernel_rfl))
theorem add_law (a b : Nat) : low (pl (a % ll) (b % ll)) = (a + b) % ll := by
  have h1 : a % ll < ll := Nat.mod_lt _ (by decide)
  have h2 : b % ll < ll := Nat.mod_lt _ (by decide)
  have h3 : pl (a % ll) (b % ll) = a % ll + b % ll := Nat.mod_eq_of_lt (by unfold W256 ll at *; omega)
  rw [h3, low_mod (by omega), ← Nat.add_mod]
def sb (a b : Nat) : Nat := (a % ll + ll - b % ll) % ll
theorem sub_law (a b : Nat) : (if bw (a % ll) (b % ll) = 1 then pl (mi (a % ll) (b % ll)) ll else mi (a % ll) (b % ll)) = sb a b := by
  have h1 : a % ll < ll := Nat.mod_lt _ (by decide)
  have h2 : b % ll < ll := Nat.mod_lt _ (by decide)
  unfold sb
  generalize a % ll = x at *
  generalize b % ll = y at *
  by_cases h : x < y
  · rw [bw_t h, if_pos rfl]
    have h3 : mi x y = x + W256 - y := Nat.mod_eq_of_lt (by unfold W256; omega)
    rw [h3]; unfold pl W256 ll at *; omega
  · rw [bw_f h, if_neg (by omega)]; unfold mi W256 ll at *; omega
theorem c_sadd (w0 : World) (hT : GV 0 tbS w0) (a b : Nat) (ha : a < W256) (hb : b < W256) : Calls Tryd.prog 103 #[sc4 a, sc4 b] w0 fun e w' => e = .returned (sc4 ((a + b) % ll)) ∧ Below w0.heap.size w0 w' := by
  refine calls_start Tryd.func103 rfl ?_
  refine C_seq ?_
  refine C_region ?_
  refine S_newv (fun nb0 => pt nb0 0) [wd (lb a 0), wd (lb a 1), wd (lb a 2), wd (lb a 3)] 34 (by kernel_rfl) (fun w _ => by kernel_rfl) ?_
  intro b1 hb1 Hb1
  refine S_newv (fun nb0 => pt nb0 0) [wd (lb b 0), wd (lb b 1), wd (lb b 2), wd (lb b 3)] 34 (by kernel_rfl) (fun w _ => by kernel_rfl) ?_
  intro b2 hb2 Hb2
  refine S_newv (fun nb0 => pt nb0 0) [.int .u64 0, .int .u64 0, .int .u64 0, .int .u64 0] 34 (by kernel_rfl) (fun w _ => by kernel_rfl) ?_
  intro b3 hb3 Hb3
  refine S_nil ?_
  refine E_then ?_
  refine C_seq ?_
  refine C_drawn [.held, .held, .held, .held, .held, .pure, .pure, .pure, .new, .eff, .pure] (by kernel_rfl) (by kernel_rfl) ?_
  refine D_held (sc4 a) (by kernel_rfl) (ldN [wd (lb a 0), wd (lb a 1), wd (lb a 2), wd (lb a 3)] 2 b1 0 [wd (lb a 0), wd (lb a 1), wd (lb a 2), wd (lb a 3)] 34 rfl (by kernel_rfl) Tryd.isAgg34 Tryd.sizeOf34 (by kernel_rfl) (by kernel_rfl)) ?_
  refine D_call (sc4 (a % ll)) (by kernel_rfl) (fun _ _ => by kernel_rfl) (fun w hO => (c_least w (hT.own hO) a ha)) ?_
  refine D_held (sc4 b) (by kernel_rfl) (ldN [wd (lb b 0), wd (lb b 1), wd (lb b 2), wd (lb b 3)] 1 b2 0 [wd (lb b 0), wd (lb b 1), wd (lb b 2), wd (lb b 3)] 34 rfl (by kernel_rfl) Tryd.isAgg34 Tryd.sizeOf34 (by kernel_rfl) (by kernel_rfl)) ?_
  refine D_call (sc4 (b % ll)) (by kernel_rfl) (fun _ _ => by kernel_rfl) (fun w hO => (c_least w (hT.own hO) b hb)) ?_
  refine D_pure (v := .tuple #[sc4 (pl (a % ll) (b % ll)), wd (((a % ll) + (b % ll)) / W256)]) (by kernel_rfl) (c_plus (a % ll) (b % ll) (Nat.lt_of_lt_of_le (Nat.mod_lt _ (by decide)) (by decide)) (Nat.lt_of_lt_of_le (Nat.mod_lt _ (by decide)) (by decide))) (fun _ => by kernel_rfl) ?_
  refine D_v (.tuple #[sc4 (pl (a % ll) (b % ll)), wd (((a % ll) + (b % ll)) / W256)]) ?_
  refine D_v (sc4 (pl (a % ll) (b % ll))) ?_
  refine D_v (wd (((a % ll) + (b % ll)) / W256)) ?_
  refine D_fresh (fun nb0 => pt nb0 0) [.int .u64 0, .int .u64 0, .int .u64 0, .int .u64 0] 34 (by kernel_rfl) (fun w _ => by kernel_rfl) ?_
  intro b4 hb4 Hb4
  refine D_do (by kernel_rfl) (stN (L' := [⟨b4, [wd (lb (pl (a % ll) (b % ll)) 0), wd (lb (pl (a % ll) (b % ll)) 1), wd (lb (pl (a % ll) (b % ll)) 2), wd (lb (pl (a % ll) (b % ll)) 3)], 34⟩, ⟨b3, [.int .u64 0, .int .u64 0, .int .u64 0, .int .u64 0], 34⟩, ⟨b2, [wd (lb b 0), wd (lb b 1), wd (lb b 2), wd (lb b 3)], 34⟩, ⟨b1, [wd (lb a 0), wd (lb a 1), wd (lb a 2), wd (lb a 3)], 34⟩]) [wd (lb (pl (a % ll) (b % ll)) 0), wd (lb (pl (a % ll) (b % ll)) 1), wd (lb (pl (a % ll) (b % ll)) 2), wd (lb (pl (a % ll) (b % ll)) 3)] 0 b4 0 [.int .u64 0, .int .u64 0, .int .u64 0, .int .u64 0] 34 rfl (by kernel_rfl) (by kernel_rfl) Tryd.sizeOf34 (by simp [Value.oneCell']) (by kernel_rfl) (by simp) (by kernel_rfl)) ?_
  refine D_v (wd (((a % ll) + (b % ll)) / W256)) ?_
  refine D_nil ?_
  refine E_then ?_
  refine C_seq ?_
  refine C_region ?_
  refine S_val (sc4 (pl (a % ll) (b % ll))) (by kernel_rfl) (ldN [wd (lb (pl (a % ll) (b % ll)) 0), wd (lb (pl (a % ll) (b % ll)) 1), wd (lb (pl (a % ll) (b % ll)) 2), wd (lb (pl (a % ll) (b % ll)) 3)] 0 b4 0 [wd (lb (pl (a % ll) (b % ll)) 0), wd (lb (pl (a % ll) (b % ll)) 1), wd (lb (pl (a % ll) (b % ll)) 2), wd (lb (pl (a % ll) (b % ll)) 3)] 34 rfl (by kernel_rfl) Tryd.isAgg34 Tryd.sizeOf34 (by kernel_rfl) (by kernel_rfl)) ?_
  refine S_call (by kernel_rfl) (fun _ _ => by kernel_rfl) (fun w hO => ((c_lower w (hT.own hO) (pl (a % ll) (b % ll)) (pl_lt _ _))).mono fun _ _ ⟨he, hb⟩ => ⟨sc4 (low (pl (a % ll) (b % ll))), _, he, hO.call hb, ?_⟩)
  refine S_do (by kernel_rfl) (stN (L' := [⟨b4, [wd (lb (pl (a % ll) (b % ll)) 0), wd (lb (pl (a % ll) (b % ll)) 1), wd (lb (pl (a % ll) (b % ll)) 2), wd (lb (pl (a % ll) (b % ll)) 3)], 34⟩, ⟨b3, [wd (lb (low (pl (a % ll) (b % ll))) 0), wd (lb (low (pl (a % ll) (b % ll))) 1), wd (lb (low (pl (a % ll) (b % ll))) 2), wd (lb (low (pl (a % ll) (b % ll))) 3)], 34⟩, ⟨b2, [wd (lb b 0), wd (lb b 1), wd (lb b 2), wd (lb b 3)], 34⟩, ⟨b1, [wd (lb a 0), wd (lb a 1), wd (lb a 2), wd (lb a 3)], 34⟩]) [wd (lb (low (pl (a % ll) (b % ll))) 0), wd (lb (low (pl (a % ll) (b % ll))) 1), wd (lb (low (pl (a % ll) (b % ll))) 2), wd (lb (low (pl (a % ll) (b % ll))) 3)] 1 b3 0 [.int .u64 0, .int .u64 0, .int .u64 0, .int .u64 0] 34 rfl (by kernel_rfl) (by kernel_rfl) Tryd.sizeOf34 (by simp [Value.oneCell']) (by kernel_rfl) (by simp) (by kernel_rfl)) ?_
  refine S_nil ?_
  refine E_then ?_
  refine C_ret ?_
  rw [← add_law]
  exact pure_ret rfl (resC Tryd.results103 [wd (lb (low (pl (a % ll) (b % ll))) 0), wd (lb (low (pl (a % ll) (b % ll))) 1), wd (lb (low (pl (a % ll) (b % ll))) 2), wd (lb (low (pl (a % ll) (b % ll))) 3)] 1 b3 34 (by kernel_rfl) Tryd.isAgg34 Tryd.sizeOf34 (by kernel_rfl))
theorem c_ssub (w0 : World) (hT : GV 0 tbS w0) (a b : Nat) (ha : a < W256) (hb : b < W256) : Calls Tryd.prog 105 #[sc4 a, sc4 b] w0 fun e w' => e = .returned (sc4 (sb a b)) ∧ Below w0.heap.size w0 w' := by
  refine calls_start Tryd.func105 rfl ?_
  refine C_seq ?_
  refine C_region ?_
  refine S_newv (fun nb0 => pt nb0 0) [wd (lb a 0), wd (lb a 1), wd (lb a 2), wd (lb a 3)] 34 (by kernel_rfl) (fun w _ => by kernel_rfl) ?_
  intro b1 hb1 Hb1
  refine S_newv (fun nb0 => pt nb0 0) [wd (lb b 0), wd (lb b 1), wd (lb b 2), wd (lb b 3)] 34 (by kernel_rfl) (fun w _ => by kernel_rfl) ?_
  intro b2 hb2 Hb2
  refine S_newv (fun nb0 => pt nb0 0) [.int .u64 0, .int .u64 0, .int .u64 0, .int .u64 0] 34 (by kernel_rfl) (fun w _ => by kernel_rfl) ?_
  intro b3 hb3 Hb3
  refine S_nil ?_
  refine E_then ?_
  refine C_seq ?_
  refine C_drawn [.held, .held, .held, .held, .held, .pure, .pure, .pure, .new, .eff, .pure] (by kernel_rfl) (by kernel_rfl) ?_
  refine D_held (sc4 a) (by kernel_rfl) (ldN [wd (lb a 0), wd (lb a 1), wd (lb a 2), wd (lb a 3)] 2 b1 0 [wd (lb a 0), wd (lb a 1), wd (lb a 2), wd (lb a 3)] 34 rfl (by kernel_rfl) Tryd.isAgg34 Tryd.sizeOf34 (by kernel_rfl) (by kernel_rfl)) ?_
  refine D_call (sc4 (a % ll)) (by kernel_rfl) (fun _ _ => by kernel_rfl) (fun w hO => (c_least w (hT.own hO) a ha)) ?_
  refine D_held (sc4 b) (by kernel_rfl) (ldN [wd (lb b 0), wd (lb b 1), wd (lb b 2), wd (lb b 3)] 1 b2 0 [wd (lb b 0), wd (lb b 1), wd (lb b 2), wd (lb b 3)] 34 rfl (by kernel_rfl) Tryd.isAgg34 Tryd.sizeOf34 (by kernel_rfl) (by kernel_rfl)) ?_
  refine D_call (sc4 (b % ll)) (by kernel_rfl) (fun _ _ => by kernel_rfl) (fun w hO => (c_least w (hT.own hO) b hb)) ?_
  refine D_pure (v := .tuple #[sc4 (mi (a % ll) (b % ll)), wd (bw (a % ll) (b % ll))]) (by kernel_rfl) (c_minus (a % ll) (b % ll) (Nat.lt_of_lt_of_le (Nat.mod_lt _ (by decide)) (by decide)) (Nat.lt_of_lt_of_le (Nat.mod_lt _ (by decide)) (by decide))) (fun _ => by kernel_rfl) ?_
  refine D_v (.tuple #[sc4 (mi (a % ll) (b % ll)), wd (bw (a % ll) (b % ll))]) ?_
  refine D_v (sc4 (mi (a % ll) (b % ll))) ?_
  refine D_v (wd (bw (a % ll) (b % ll))) ?_
  refine D_fresh (fun nb0 => pt nb0 0) [.int .u64 0, .int .u64 0, .int .u64 0, .int .u64 0] 34 (by kernel_rfl) (fun w _ => by kernel_rfl) ?_
  intro b4 hb4 Hb4
  refine D_do (by kernel_rfl) (stN (L' := [⟨b4, [wd (lb (mi (a % ll) (b % ll)) 0), wd (lb (mi (a % ll) (b % ll)) 1), wd (lb (mi (a % ll) (b % ll)) 2), wd (lb (mi (a % ll) (b % ll)) 3)], 34⟩, ⟨b3, [.int .u64 0, .int .u64 0, .int .u64 0, .int .u64 0], 34⟩, ⟨b2, [wd (lb b 0), wd (lb b 1), wd (lb b 2), wd (lb b 3)], 34⟩, ⟨b1, [wd (lb a 0), wd (lb a 1), wd (lb a 2), wd (lb a 3)], 34⟩]) [wd (lb (mi (a % ll) (b % ll)) 0), wd (lb (mi (a % ll) (b % ll)) 1), wd (lb (mi (a % ll) (b % ll)) 2), wd (lb (mi (a % ll) (b % ll)) 3)] 0 b4 0 [.int .u64 0, .int .u64 0, .int .u64 0, .int .u64 0] 34 rfl (by kernel_rfl) (by kernel_rfl) Tryd.sizeOf34 (by simp [Value.oneCell']) (by kernel_rfl) (by simp) (by kernel_rfl)) ?_
  refine D_v (wd (bw (a % ll) (b % ll))) ?_
  refine D_nil ?_
  refine E_then ?_
  refine C_seq ?_
  refine C_region ?_
  refine S_val (sc4 (mi (a % ll) (b % ll))) (by kernel_rfl) (ldN [wd (lb (mi (a % ll) (b % ll)) 0), wd (lb (mi (a % ll) (b % ll)) 1), wd (lb (mi (a % ll) (b % ll)) 2), wd (lb (mi (a % ll) (b % ll)) 3)] 0 b4 0 [wd (lb (mi (a % ll) (b % ll)) 0), wd (lb (mi (a % ll) (b % ll)) 1), wd (lb (mi (a % ll) (b % ll)) 2), wd (lb (mi (a % ll) (b % ll)) 3)] 34 rfl (by kernel_rfl) Tryd.isAgg34 Tryd.sizeOf34 (by kernel_rfl) (by kernel_rfl)) ?_
  refine S_v (pt 0 0) ?_
  refine S_val (.agg #[.int .u64 6346243789798364141, .int .u64 1503914060200516822, .int .u64 0, .int .u64 1152921504606846976]) (by kernel_rfl) (ldNo [.int .u64 6346243789798364141, .int .u64 1503914060200516822, .int .u64 0, .int .u64 1152921504606846976] 0 0 rfl (by kernel_rfl) Tryd.isAgg34 Tryd.sizeOf34 (hT.sub 0 [.int .u64 6346243789798364141, .int .u64 1503914060200516822, .int .u64 0, .int .u64 1152921504606846976] (by kernel_rfl))) ?_
  refine S_pure (v := .tuple #[sc4 (pl (mi (a % ll) (b % ll)) ll), wd (((mi (a % ll) (b % ll)) + ll) / W256)]) (by kernel_rfl) (c_plus (mi (a % ll) (b % ll)) ll (mi_lt _ _) (by decide)) (fun _ => by kernel_rfl) ?_
  refine S_v (.tuple #[sc4 (pl (mi (a % ll) (b % ll)) ll), wd (((mi (a % ll) (b % ll)) + ll) / W256)]) ?_
  refine S_v (sc4 (pl (mi (a % ll) (b % ll)) ll)) ?_
  refine S_v (wd (((mi (a % ll) (b % ll)) + ll) / W256)) ?_
  refine S_newv (fun nb0 => pt nb0 0) [.int .u64 0, .int .u64 0, .int .u64 0, .int .u64 0] 34 (by kernel_rfl) (fun w _ => by kernel_rfl) ?_
  intro b5 hb5 Hb5
  refine S_do (by kernel_rfl) (stN (L' := [⟨b5, [wd (lb (pl (mi (a % ll) (b % ll)) ll) 0), wd (lb (pl (mi (a % ll) (b % ll)) ll) 1), wd (lb (pl (mi (a % ll) (b % ll)) ll) 2), wd (lb (pl (mi (a % ll) (b % ll)) ll) 3)], 34⟩, ⟨b4, [wd (lb (mi (a % ll) (b % ll)) 0), wd (lb (mi (a % ll) (b % ll)) 1), wd (lb (mi (a % ll) (b % ll)) 2), wd (lb (mi (a % ll) (b % ll)) 3)], 34⟩, ⟨b3, [.int .u64 0, .int .u64 0, .int .u64 0, .int .u64 0], 34⟩, ⟨b2, [wd (lb b 0), wd (lb b 1), wd (lb b 2), wd (lb b 3)], 34⟩, ⟨b1, [wd (lb a 0), wd (lb a 1), wd (lb a 2), wd (lb a 3)], 34⟩]) [wd (lb (pl (mi (a % ll) (b % ll)) ll) 0), wd (lb (pl (mi (a % ll) (b % ll)) ll) 1), wd (lb (pl (mi (a % ll) (b % ll)) ll) 2), wd (lb (pl (mi (a % ll) (b % ll)) ll) 3)] 0 b5 0 [.int .u64 0, .int .u64 0, .int .u64 0, .int .u64 0] 34 rfl (by kernel_rfl) (by kernel_rfl) Tryd.sizeOf34 (by simp [Value.oneCell']) (by kernel_rfl) (by simp) (by kernel_rfl)) ?_
  refine S_v (wd (((mi (a % ll) (b % ll)) + ll) / W256)) ?_
  refine S_nil ?_
  refine E_then ?_
  refine C_seq ?_
  refine C_region ?_
  refine S_v (wd (bw (a % ll) (b % ll))) ?_
  obtain ⟨x6, hx6, lx6⟩ : ∃ q, q = (18446744073709551616 - (bw (a % ll) (b % ll))) % 18446744073709551616 ∧ q < 18446744073709551616 := ⟨_, rfl, Nat.mod_lt _ (by decide)⟩
  refine S_val (wd x6) (by kernel_rfl) (fun _ _ => fv (v := .int .u64 (IntKind.u64.wrap (0 - ((bw (a % ll) (b % ll) : Nat) : Int)))) ((vint (hx6 ▸ u_neg (bw (a % ll) (b % ll)) (by have := (bw_lt64 (a % ll) (b % ll)); omega)))) (by kernel_rfl)) ?_
  refine S_val (sc4 (pl (mi (a % ll) (b % ll)) ll)) (by kernel_rfl) (ldN [wd (lb (pl (mi (a % ll) (b % ll)) ll) 0), wd (lb (pl (mi (a % ll) (b % ll)) ll) 1), wd (lb (pl (mi (a % ll) (b % ll)) ll) 2), wd (lb (pl (mi (a % ll) (b % ll)) ll) 3)] 0 b5 0 [wd (lb (pl (mi (a % ll) (b % ll)) ll) 0), wd (lb (pl (mi (a % ll) (b % ll)) ll) 1), wd (lb (pl (mi (a % ll) (b % ll)) ll) 2), wd (lb (pl (mi (a % ll) (b % ll)) ll) 3)] 34 rfl (by kernel_rfl) Tryd.isAgg34 Tryd.sizeOf34 (by kernel_rfl) (by kernel_rfl)) ?_
  refine S_val (sc4 (mi (a % ll) (b % ll))) (by kernel_rfl) (ldN [wd (lb (mi (a % ll) (b % ll)) 0), wd (lb (mi (a % ll) (b % ll)) 1), wd (lb (mi (a % ll) (b % ll)) 2), wd (lb (mi (a % ll) (b % ll)) 3)] 1 b4 0 [wd (lb (mi (a % ll) (b % ll)) 0), wd (lb (mi (a % ll) (b % ll)) 1), wd (lb (mi (a % ll) (b % ll)) 2), wd (lb (mi (a % ll) (b % ll)) 3)] 34 rfl (by kernel_rfl) Tryd.isAgg34 Tryd.sizeOf34 (by kernel_rfl) (by kernel_rfl)) ?_
  refine S_pure (v := sc4 (if bw (a % ll) (b % ll) = 1 then (pl (mi (a % ll) (b % ll)) ll) else (mi (a % ll) (b % ll)))) (by kernel_rfl) (c_choose (bw (a % ll) (b % ll)) x6 (pl (mi (a % ll) (b % ll)) ll) (mi (a % ll) (b % ll)) (bw_le _ _) hx6) (fun _ => by kernel_rfl) ?_
  refine S_do (by kernel_rfl) (stN (L' := [⟨b5, [wd (lb (pl (mi (a % ll) (b % ll)) ll) 0), wd (lb (pl (mi (a % ll) (b % ll)) ll) 1), wd (lb (pl (mi (a % ll) (b % ll)) ll) 2), wd (lb (pl (mi (a % ll) (b % ll)) ll) 3)], 34⟩, ⟨b4, [wd (lb (mi (a % ll) (b % ll)) 0), wd (lb (mi (a % ll) (b % ll)) 1), wd (lb (mi (a % ll) (b % ll)) 2), wd (lb (mi (a % ll) (b % ll)) 3)], 34⟩, ⟨b3, [wd (lb (if bw (a % ll) (b % ll) = 1 then (pl (mi (a % ll) (b % ll)) ll) else (mi (a % ll) (b % ll))) 0), wd (lb (if bw (a % ll) (b % ll) = 1 then (pl (mi (a % ll) (b % ll)) ll) else (mi (a % ll) (b % ll))) 1), wd (lb (if bw (a % ll) (b % ll) = 1 then (pl (mi (a % ll) (b % ll)) ll) else (mi (a % ll) (b % ll))) 2), wd (lb (if bw (a % ll) (b % ll) = 1 then (pl (mi (a % ll) (b % ll)) ll) else (mi (a % ll) (b % ll))) 3)], 34⟩, ⟨b2, [wd (lb b 0), wd (lb b 1), wd (lb b 2), wd (lb b 3)], 34⟩, ⟨b1, [wd (lb a 0), wd (lb a 1), wd (lb a 2), wd (lb a 3)], 34⟩]) [wd (lb (if bw (a % ll) (b % ll) = 1 then (pl (mi (a % ll) (b % ll)) ll) else (mi (a % ll) (b % ll))) 0), wd (lb (if bw (a % ll) (b % ll) = 1 then (pl (mi (a % ll) (b % ll)) ll) else (mi (a % ll) (b % ll))) 1), wd (lb (if bw (a % ll) (b % ll) = 1 then (pl (mi (a % ll) (b % ll)) ll) else (mi (a % ll) (b % ll))) 2), wd (lb (if bw (a % ll) (b % ll) = 1 then (pl (mi (a % ll) (b % ll)) ll) else (mi (a % ll) (b % ll))) 3)] 2 b3 0 [.int .u64 0, .int .u64 0, .int .u64 0, .int .u64 0] 34 rfl (by kernel_rfl) (by kernel_rfl) Tryd.sizeOf34 (by simp [Value.oneCell']) (by kernel_rfl) (by simp) (by kernel_rfl)) ?_
  refine S_nil ?_
  refine E_then ?_
  refine C_ret ?_
  rw [← sub_law]
  exact pure_ret rfl (resC Tryd.results105 [wd (lb (if bw (a % ll) (b % ll) = 1 then (pl (mi (a % ll) (b % ll)) ll) else (mi (a % ll) (b % ll))) 0), wd (lb (if bw (a % ll) (b % ll) = 1 then (pl (mi (a % ll) (b % ll)) ll) else (mi (a % ll) (b % ll))) 1), wd (lb (if bw (a % ll) (b % ll) = 1 then (pl (mi (a % ll) (b % ll)) ll) else (mi (a % ll) (b % ll))) 2), wd (lb (if bw (a % ll) (b % ll) = 1 then (pl (mi (a % ll) (b % ll)) ll) else (mi (a % ll) (b % ll))) 3)] 2 b3 34 (by kernel_rfl) Tryd.isAgg34 Tryd.sizeOf34 (by kernel_rfl))
theorem c_smul (w0 : World) (hT : GV 0 tbS w0) (a b : Nat) (ha : a < W256) (hb : b < W256) : Calls Tryd.prog 13 #[sc4 a, sc4 b] w0 fun e w' => e = .returned (sc4 (a * b % ll)) ∧ Below w0.heap.size w0 w' := by
  refine calls_start Tryd.func13 rfl ?_
  refine C_seq ?_
  refine C_region ?_
  refine S_newv (fun nb0 => pt nb0 0) [wd (lb a 0), wd (lb a 1), wd (lb a 2), wd (lb a 3)] 34 (by kernel_rfl) (fun w _ => by kernel_rfl) ?_
  intro b1 hb1 Hb1
  refine S_newv (fun nb0 => pt nb0 0) [wd (lb b 0), wd (lb b 1), wd (lb b 2), wd (lb b 3)] 34 (by kernel_rfl) (fun w _ => by kernel_rfl) ?_
  intro b2 hb2 Hb2
  refine S_newv (fun nb0 => pt nb0 0) [.int .u64 0, .int .u64 0, .int .u64 0, .int .u64 0] 34 (by kernel_rfl) (fun w _ => by kernel_rfl) ?_
  intro b3 hb3 Hb3
  refine S_nil ?_
  refine E_then ?_
  refine C_seq ?_
  refine C_drawn [.held, .held, .held, .held, .held, .pure, .held, .held, .eff] (by kernel_rfl) (by kernel_rfl) ?_
  refine D_held (sc4 a) (by kernel_rfl) (ldN [wd (lb a 0), wd (lb a 1), wd (lb a 2), wd (lb a 3)] 2 b1 0 [wd (lb a 0), wd (lb a 1), wd (lb a 2), wd (lb a 3)] 34 rfl (by kernel_rfl) Tryd.isAgg34 Tryd.sizeOf34 (by kernel_rfl) (by kernel_rfl)) ?_
  refine D_call (sc4 (a % ll)) (by kernel_rfl) (fun _ _ => by kernel_rfl) (fun w hO => (c_least w (hT.own hO) a ha)) ?_
  refine D_held (sc4 b) (by kernel_rfl) (ldN [wd (lb b 0), wd (lb b 1), wd (lb b 2), wd (lb b 3)] 1 b2 0 [wd (lb b 0), wd (lb b 1), wd (lb b 2), wd (lb b 3)] 34 rfl (by kernel_rfl) Tryd.isAgg34 Tryd.sizeOf34 (by kernel_rfl) (by kernel_rfl)) ?_
  refine D_call (sc4 (b % ll)) (by kernel_rfl) (fun _ _ => by kernel_rfl) (fun w hO => (c_least w (hT.own hO) b hb)) ?_
  refine D_call (sc4 (mont (a % ll) (b % ll))) (by kernel_rfl) (fun _ _ => by kernel_rfl) (fun w hO => (c_product w (hT.own hO) (a % ll) (b % ll) (Nat.mod_lt _ (by decide)) (Nat.mod_lt _ (by decide)))) ?_
  refine D_v (pt 0 8) ?_
  refine D_held (.agg #[.int .u64 11819153939886771969, .int .u64 14991950615390032711, .int .u64 14910419812499177061, .int .u64 259310039853996605]) (by kernel_rfl) (ldNo [.int .u64 11819153939886771969, .int .u64 14991950615390032711, .int .u64 14910419812499177061, .int .u64 259310039853996605] 0 8 rfl (by kernel_rfl) Tryd.isAgg34 Tryd.sizeOf34 (hT.sub 8 [.int .u64 11819153939886771969, .int .u64 14991950615390032711, .int .u64 14910419812499177061, .int .u64 259310039853996605] (by kernel_rfl))) ?_
  refine D_call (sc4 (mont (mont (a % ll) (b % ll)) R2)) (by kernel_rfl) (fun _ _ => by kernel_rfl) (fun w hO => (c_product w (hT.own hO) (mont (a % ll) (b % ll)) R2 (mont_lt _ _) (by decide))) ?_
  refine D_do (by kernel_rfl) (stN (L' := [⟨b3, [wd (lb (mont (mont (a % ll) (b % ll)) R2) 0), wd (lb (mont (mont (a % ll) (b % ll)) R2) 1), wd (lb (mont (mont (a % ll) (b % ll)) R2) 2), wd (lb (mont (mont (a % ll) (b % ll)) R2) 3)], 34⟩, ⟨b2, [wd (lb b 0), wd (lb b 1), wd (lb b 2), wd (lb b 3)], 34⟩, ⟨b1, [wd (lb a 0), wd (lb a 1), wd (lb a 2), wd (lb a 3)], 34⟩]) [wd (lb (mont (mont (a % ll) (b % ll)) R2) 0), wd (lb (mont (mont (a % ll) (b % ll)) R2) 1), wd (lb (mont (mont (a % ll) (b % ll)) R2) 2), wd (lb (mont (mont (a % ll) (b % ll)) R2) 3)] 0 b3 0 [.int .u64 0, .int .u64 0, .int .u64 0, .int .u64 0] 34 rfl (by kernel_rfl) (by kernel_rfl) Tryd.sizeOf34 (by simp [Value.oneCell']) (by kernel_rfl) (by simp) (by kernel_rfl)) ?_
  refine D_nil ?_
  refine E_then ?_
  refine C_ret ?_
  rw [← mont_mul]
  exact pure_ret rfl (resC Tryd.results13 [wd (lb (mont (mont (a % ll) (b % ll)) R2) 0), wd (lb (mont (mont (a % ll) (b % ll)) R2) 1), wd (lb (mont (mont (a % ll) (b % ll)) R2) 2), wd (lb (mont (mont (a % ll) (b % ll)) R2) 3)] 0 b3 34 (by kernel_rfl) Tryd.isAgg34 Tryd.sizeOf34 (by kernel_rfl))
theorem c_sone (a : Nat) : Pure Tryd.prog 104 #[sc4 a] (.agg #[.int .u64 1, .int .u64 0, .int .u64 0, .int .u64 0]) := by
  refine pure_of Tryd.func104 rfl (fun w0 => ?_)
  refine C_seq ?_
  refine C_region ?_
  refine S_newv (fun nb0 => pt nb0 0) [wd (lb a 0), wd (lb a 1), wd (lb a 2), wd (lb a 3)] 34 (by kernel_rfl) (fun w _ => by kernel_rfl) ?_
  intro b1 hb1 Hb1
  refine S_newv (fun nb0 => pt nb0 0) [.int .u64 0, .int .u64 0, .int .u64 0, .int .u64 0] 34 (by kernel_rfl) (fun w _ => by kernel_rfl) ?_
  intro b2 hb2 Hb2
  refine S_nil ?_
  refine E_then ?_
  refine C_seq ?_
  refine C_region ?_
  refine S_v (.agg #[.int .u64 1, .int .u64 0, .int .u64 0, .int .u64 0]) ?_
  refine S_do (by kernel_rfl) (stN (L' := [⟨b2, [.int .u64 1, .int .u64 0, .int .u64 0, .int .u64 0], 34⟩, ⟨b1, [wd (lb a 0), wd (lb a 1), wd (lb a 2), wd (lb a 3)], 34⟩]) [.int .u64 1, .int .u64 0, .int .u64 0, .int .u64 0] 0 b2 0 [.int .u64 0, .int .u64 0, .int .u64 0, .int .u64 0] 34 rfl (by kernel_rfl) (by kernel_rfl) Tryd.sizeOf34 (by simp [Value.oneCell']) (by kernel_rfl) (by simp) (by kernel_rfl)) ?_
  refine S_nil ?_
  refine E_then ?_
  refine C_ret ?_
  exact pure_ret rfl (resC Tryd.results104 [.int .u64 1, .int .u64 0, .int .u64 0, .int .u64 0] 0 b2 34 (by kernel_rfl) Tryd.isAgg34 Tryd.sizeOf34 (by kernel_rfl))
theorem c_sint (n : Nat) : Pure Tryd.prog 14 #[wd n] (.agg #[wd n, .int .u64 0, .int .u64 0, .int .u64 0]) := by
  refine pure_of Tryd.func14 rfl (fun w0 => ?_)
  refine C_seq ?_
  refine C_region ?_
  refine S_newv (fun nb0 => pt nb0 0) [.int .u64 0, .int .u64 0, .int .u64 0, .int .u64 0] 34 (by kernel_rfl) (fun w _ => by kernel_rfl) ?_
  intro b1 hb1 Hb1
  refine S_nil ?_
  refine E_then ?_
  refine C_seq ?_
  refine C_region ?_
  refine S_v (wd n) ?_
  refine S_v (.agg #[wd n, .int .u64 0, .int .u64 0, .int .u64 0]) ?_
  refine S_do (by kernel_rfl) (stN (L' := [⟨b1, [wd n, .int .u64 0, .int .u64 0, .int .u64 0], 34⟩]) [wd n, .int .u64 0, .int .u64 0, .int .u64 0] 0 b1 0 [.int .u64 0, .int .u64 0, .int .u64 0, .int .u64 0] 34 rfl (by kernel_rfl) (by kernel_rfl) Tryd.sizeOf34 (by simp [Value.oneCell']) (by kernel_rfl) (by simp) (by kernel_rfl)) ?_
  refine S_nil ?_
  refine E_then ?_
  refine C_ret ?_
  exact pure_ret rfl (resC Tryd.results14 [wd n, .int .u64 0, .int .u64 0, .int .u64 0] 0 b1 34 (by kernel_rfl) Tryd.isAgg34 Tryd.sizeOf34 (by kernel_rfl))
end Go.Vk
