/- What functions of the program do: walks, printed by a program of my own. -/
import Derived.Test.YtalnkpdahpjmmaaDoorDFm
set_option linter.unusedVariables false
set_option linter.unusedSimpArgs false
namespace Go.Vk
open Go Go.RowKit Go.Proofs Go.Vk.Num
set_option linter.unusedVariables false
theorem pw_mul (v i j : Nat) : (v ^ i % pp) * (v ^ j % pp) % pp = v ^ (i + j) % pp := by rw [← Nat.mul_mod, ← Nat.pow_add]
theorem pw_sq (v i n : Nat) : (v ^ i % pp) ^ 2 ^ n % pp = v ^ (i * 2 ^ n) % pp := by rw [← Nat.pow_mod, ← Nat.pow_mul]
theorem pw_one (v j : Nat) : (v ^ j % pp) * v % pp = v ^ (j + 1) % pp := by rw [Nat.mod_mul_mod, ← Nat.pow_succ]
theorem pw_two (v : Nat) : v * v % pp = v ^ 2 % pp := by rw [Nat.pow_two]
theorem pw_zero (a : Nat) : a % pp = (a % pp) ^ 2 ^ 0 % pp := by rw [Nat.pow_zero, Nat.pow_one, Nat.mod_mod]
theorem pw_step (a k : Nat) : (a % pp) ^ 2 ^ k % pp * ((a % pp) ^ 2 ^ k % pp) % pp = (a % pp) ^ 2 ^ (k + 1) % pp := by rw [← Nat.mul_mod, ← Nat.pow_add, ← Nat.two_mul, ← Nat.pow_succ']
theorem c_fsquares (a n : Nat) (hn : n ≤ 1000) : Pure Tryd.prog 35 #[F5.v (F5.of (a % pp)), .int .i64 ((n : Nat) : Int)] ((F5.of ((a % pp) ^ 2 ^ n % pp)).v) := by
  refine pure_of Tryd.func35 rfl (fun w0 => ?_)
  refine C_seq ?_
  refine C_region ?_
  refine S_newv (fun nb0 => pt nb0 0) [wd ((F5.of (a % pp)).l0), wd ((F5.of (a % pp)).l1), wd ((F5.of (a % pp)).l2), wd ((F5.of (a % pp)).l3), wd ((F5.of (a % pp)).l4)] 31 (by kernel_rfl) (fun w _ => by kernel_rfl) ?_
  intro b1 hb1 Hb1
  refine S_newv (fun nb0 => pt nb0 0) [.int .u64 0, .int .u64 0, .int .u64 0, .int .u64 0, .int .u64 0] 31 (by kernel_rfl) (fun w _ => by kernel_rfl) ?_
  intro b2 hb2 Hb2
  refine S_nil ?_
  refine E_then ?_
  refine C_seq ?_
  refine C_seq ?_
  refine C_region ?_
  refine S_v (.int .i64 ((n : Nat) : Int)) ?_
  refine S_v (.int .i64 0) ?_
  refine S_nil ?_
  refine E_then ?_
  refine C_block ?_
  refine C_loop1 (fun (k : Nat) => (k ≤ n)) (fun (k : Nat) => fun g => ⟨#[g 0, g 1, pt b1 0, g 3, pt b2 0, .int .i64 ((n : Nat) : Int), .int .i64 ((k : Nat) : Int), g 7, g 8, g 9, g 10, g 11], []⟩) (fun (k : Nat) => [⟨b2, [.int .u64 0, .int .u64 0, .int .u64 0, .int .u64 0, .int .u64 0], 31⟩, ⟨b1, [wd ((F5.of ((a % pp) ^ 2 ^ k % pp)).l0), wd ((F5.of ((a % pp) ^ 2 ^ k % pp)).l1), wd ((F5.of ((a % pp) ^ 2 ^ k % pp)).l2), wd ((F5.of ((a % pp) ^ 2 ^ k % pp)).l3), wd ((F5.of ((a % pp) ^ 2 ^ k % pp)).l4)], 31⟩]) (fun (k : Nat) => n - k) 0 (by (try dsimp only); exact Nat.zero_le _) (by kernel_rfl) (by first | (dsimp only; done) | ((try dsimp only); rw [← pw_zero])) ?_
  rintro k g3 hk
  refine C_seq ?_
  refine C_region ?_
  refine S_v (.bool (decide (((k : Nat) : Int) < ((n : Nat) : Int)))) ?_
  refine S_nil ?_
  refine E_then ?_
  refine C_seq ?_
  refine C_if (decide (((k : Nat) : Int) < ((n : Nat) : Int))) (by kernel_rfl) (fun hc => ?_) (fun hc => ?_)
  · replace hc := of_decide_eq_true hc
    refine C_skip ?_
    refine E_then ?_
    refine C_seq ?_
    refine C_block ?_
    refine C_region ?_
    refine S_val (F5.v (F5.of ((a % pp) ^ 2 ^ k % pp))) (by kernel_rfl) (ldN [wd ((F5.of ((a % pp) ^ 2 ^ k % pp)).l0), wd ((F5.of ((a % pp) ^ 2 ^ k % pp)).l1), wd ((F5.of ((a % pp) ^ 2 ^ k % pp)).l2), wd ((F5.of ((a % pp) ^ 2 ^ k % pp)).l3), wd ((F5.of ((a % pp) ^ 2 ^ k % pp)).l4)] 1 b1 0 [wd ((F5.of ((a % pp) ^ 2 ^ k % pp)).l0), wd ((F5.of ((a % pp) ^ 2 ^ k % pp)).l1), wd ((F5.of ((a % pp) ^ 2 ^ k % pp)).l2), wd ((F5.of ((a % pp) ^ 2 ^ k % pp)).l3), wd ((F5.of ((a % pp) ^ 2 ^ k % pp)).l4)] 31 rfl (by kernel_rfl) Tryd.isAgg31 Tryd.sizeOf31 (by kernel_rfl) (by kernel_rfl)) ?_
    have hC4 := c_fsq (F5.of ((a % pp) ^ 2 ^ k % pp)) (F5.of_ok _)
    rw [of_val_mod, pw_step] at hC4
    refine S_pure (v := F5.v (F5.of ((a % pp) ^ 2 ^ (k + 1) % pp))) (by kernel_rfl) hC4 (fun _ => by kernel_rfl) ?_
    refine S_do (by kernel_rfl) (stN (L' := [⟨b2, [.int .u64 0, .int .u64 0, .int .u64 0, .int .u64 0, .int .u64 0], 31⟩, ⟨b1, [wd ((F5.of ((a % pp) ^ 2 ^ (k + 1) % pp)).l0), wd ((F5.of ((a % pp) ^ 2 ^ (k + 1) % pp)).l1), wd ((F5.of ((a % pp) ^ 2 ^ (k + 1) % pp)).l2), wd ((F5.of ((a % pp) ^ 2 ^ (k + 1) % pp)).l3), wd ((F5.of ((a % pp) ^ 2 ^ (k + 1) % pp)).l4)], 31⟩]) [wd ((F5.of ((a % pp) ^ 2 ^ (k + 1) % pp)).l0), wd ((F5.of ((a % pp) ^ 2 ^ (k + 1) % pp)).l1), wd ((F5.of ((a % pp) ^ 2 ^ (k + 1) % pp)).l2), wd ((F5.of ((a % pp) ^ 2 ^ (k + 1) % pp)).l3), wd ((F5.of ((a % pp) ^ 2 ^ (k + 1) % pp)).l4)] 1 b1 0 [wd ((F5.of ((a % pp) ^ 2 ^ k % pp)).l0), wd ((F5.of ((a % pp) ^ 2 ^ k % pp)).l1), wd ((F5.of ((a % pp) ^ 2 ^ k % pp)).l2), wd ((F5.of ((a % pp) ^ 2 ^ k % pp)).l3), wd ((F5.of ((a % pp) ^ 2 ^ k % pp)).l4)] 31 rfl (by kernel_rfl) (by kernel_rfl) Tryd.sizeOf31 (by simp [Value.oneCell']) (by kernel_rfl) (by simp) (by kernel_rfl)) ?_
    refine S_nil ?_
    refine E_inblock ?_
    refine E_then ?_
    refine C_region ?_
    refine S_val (.int .i64 ((k + 1 : Nat) : Int)) (by kernel_rfl) (fun _ _ => fv (v := .int .i64 (IntKind.i64.wrap (((k : Nat) : Int) + 1))) (vint (w64 (by omega) (by omega) (by omega))) (by kernel_rfl)) ?_
    refine S_v (.int .i64 ((k + 1 : Nat) : Int)) ?_
    refine S_nil ?_
    exact E_norm (fun w hw => ⟨k + 1, by omega, (by kernel_rfl), (by (try dsimp only); omega), hw⟩)
  · replace hc := of_decide_eq_false hc
    obtain rfl : n = k := by omega
    refine C_exit ?_
    refine E_pass_exit ?_
    refine E_pass_exit ?_
    refine E_outblock ?_
    refine E_then ?_
    refine C_seq ?_
    refine C_region ?_
    refine S_val (F5.v (F5.of ((a % pp) ^ 2 ^ n % pp))) (by kernel_rfl) (ldN [wd ((F5.of ((a % pp) ^ 2 ^ n % pp)).l0), wd ((F5.of ((a % pp) ^ 2 ^ n % pp)).l1), wd ((F5.of ((a % pp) ^ 2 ^ n % pp)).l2), wd ((F5.of ((a % pp) ^ 2 ^ n % pp)).l3), wd ((F5.of ((a % pp) ^ 2 ^ n % pp)).l4)] 1 b1 0 [wd ((F5.of ((a % pp) ^ 2 ^ n % pp)).l0), wd ((F5.of ((a % pp) ^ 2 ^ n % pp)).l1), wd ((F5.of ((a % pp) ^ 2 ^ n % pp)).l2), wd ((F5.of ((a % pp) ^ 2 ^ n % pp)).l3), wd ((F5.of ((a % pp) ^ 2 ^ n % pp)).l4)] 31 rfl (by kernel_rfl) Tryd.isAgg31 Tryd.sizeOf31 (by kernel_rfl) (by kernel_rfl)) ?_
    refine S_do (by kernel_rfl) (stN (L' := [⟨b2, [wd ((F5.of ((a % pp) ^ 2 ^ n % pp)).l0), wd ((F5.of ((a % pp) ^ 2 ^ n % pp)).l1), wd ((F5.of ((a % pp) ^ 2 ^ n % pp)).l2), wd ((F5.of ((a % pp) ^ 2 ^ n % pp)).l3), wd ((F5.of ((a % pp) ^ 2 ^ n % pp)).l4)], 31⟩, ⟨b1, [wd ((F5.of ((a % pp) ^ 2 ^ n % pp)).l0), wd ((F5.of ((a % pp) ^ 2 ^ n % pp)).l1), wd ((F5.of ((a % pp) ^ 2 ^ n % pp)).l2), wd ((F5.of ((a % pp) ^ 2 ^ n % pp)).l3), wd ((F5.of ((a % pp) ^ 2 ^ n % pp)).l4)], 31⟩]) [wd ((F5.of ((a % pp) ^ 2 ^ n % pp)).l0), wd ((F5.of ((a % pp) ^ 2 ^ n % pp)).l1), wd ((F5.of ((a % pp) ^ 2 ^ n % pp)).l2), wd ((F5.of ((a % pp) ^ 2 ^ n % pp)).l3), wd ((F5.of ((a % pp) ^ 2 ^ n % pp)).l4)] 0 b2 0 [.int .u64 0, .int .u64 0, .int .u64 0, .int .u64 0, .int .u64 0] 31 rfl (by kernel_rfl) (by kernel_rfl) Tryd.sizeOf31 (by simp [Value.oneCell']) (by kernel_rfl) (by simp) (by kernel_rfl)) ?_
    refine S_nil ?_
    refine E_then ?_
    refine C_ret ?_
    exact pure_ret rfl (resC Tryd.results35 [wd ((F5.of ((a % pp) ^ 2 ^ n % pp)).l0), wd ((F5.of ((a % pp) ^ 2 ^ n % pp)).l1), wd ((F5.of ((a % pp) ^ 2 ^ n % pp)).l2), wd ((F5.of ((a % pp) ^ 2 ^ n % pp)).l3), wd ((F5.of ((a % pp) ^ 2 ^ n % pp)).l4)] 0 b2 31 (by kernel_rfl) Tryd.isAgg31 Tryd.sizeOf31 (by kernel_rfl))
set_option maxHeartbeats 4000000 in
theorem c_fones (x : F5) (hx : x.ok) : Pure Tryd.prog 34 #[F5.v x] (.tuple #[(F5.of (x.val ^ 1809251394333065553493296640760748560207343510400633813116524750123642650623 % pp)).v, (F5.of (x.val ^ 11 % pp)).v]) := by
  obtain ⟨v, hv⟩ : ∃ v, x.val = v := ⟨_, rfl⟩
  rw [hv]
  refine pure_of Tryd.func34 rfl (fun w0 => ?_)
  refine C_seq ?_
  refine C_region ?_
  refine S_newv (fun nb0 => pt nb0 0) [wd x.l0, wd x.l1, wd x.l2, wd x.l3, wd x.l4] 31 (by kernel_rfl) (fun w _ => by kernel_rfl) ?_
  intro b1 hb1 Hb1
  refine S_newv (fun nb0 => pt nb0 0) [.int .u64 0, .int .u64 0, .int .u64 0, .int .u64 0, .int .u64 0] 31 (by kernel_rfl) (fun w _ => by kernel_rfl) ?_
  intro b2 hb2 Hb2
  refine S_newv (fun nb0 => pt nb0 0) [.int .u64 0, .int .u64 0, .int .u64 0, .int .u64 0, .int .u64 0] 31 (by kernel_rfl) (fun w _ => by kernel_rfl) ?_
  intro b3 hb3 Hb3
  refine S_nil ?_
  refine E_then ?_
  refine C_seq ?_
  refine C_region ?_
  refine S_val (F5.v x) (by kernel_rfl) (ldN [wd x.l0, wd x.l1, wd x.l2, wd x.l3, wd x.l4] 2 b1 0 [wd x.l0, wd x.l1, wd x.l2, wd x.l3, wd x.l4] 31 rfl (by kernel_rfl) Tryd.isAgg31 Tryd.sizeOf31 (by kernel_rfl) (by kernel_rfl)) ?_
  have hC4 := c_fsq x hx
  rw [hv, pw_two] at hC4
  refine S_pure (v := F5.v (F5.of (v ^ 2 % pp))) (by kernel_rfl) (hC4) (fun _ => by kernel_rfl) ?_
  refine S_newv (fun nb0 => pt nb0 0) [.int .u64 0, .int .u64 0, .int .u64 0, .int .u64 0, .int .u64 0] 31 (by kernel_rfl) (fun w _ => by kernel_rfl) ?_
  intro b5 hb5 Hb5
  refine S_do (by kernel_rfl) (stN (L' := [⟨b5, [wd ((F5.of (v ^ 2 % pp)).l0), wd ((F5.of (v ^ 2 % pp)).l1), wd ((F5.of (v ^ 2 % pp)).l2), wd ((F5.of (v ^ 2 % pp)).l3), wd ((F5.of (v ^ 2 % pp)).l4)], 31⟩, ⟨b3, [.int .u64 0, .int .u64 0, .int .u64 0, .int .u64 0, .int .u64 0], 31⟩, ⟨b2, [.int .u64 0, .int .u64 0, .int .u64 0, .int .u64 0, .int .u64 0], 31⟩, ⟨b1, [wd x.l0, wd x.l1, wd x.l2, wd x.l3, wd x.l4], 31⟩]) [wd ((F5.of (v ^ 2 % pp)).l0), wd ((F5.of (v ^ 2 % pp)).l1), wd ((F5.of (v ^ 2 % pp)).l2), wd ((F5.of (v ^ 2 % pp)).l3), wd ((F5.of (v ^ 2 % pp)).l4)] 0 b5 0 [.int .u64 0, .int .u64 0, .int .u64 0, .int .u64 0, .int .u64 0] 31 rfl (by kernel_rfl) (by kernel_rfl) Tryd.sizeOf31 (by simp [Value.oneCell']) (by kernel_rfl) (by simp) (by kernel_rfl)) ?_
  refine S_nil ?_
  refine E_then ?_
  refine C_seq ?_
  refine C_drawn [.held, .held, .held, .held, .new, .eff] (by kernel_rfl) (by kernel_rfl) ?_
  refine D_held (F5.v (F5.of (v ^ 2 % pp))) (by kernel_rfl) (ldN [wd ((F5.of (v ^ 2 % pp)).l0), wd ((F5.of (v ^ 2 % pp)).l1), wd ((F5.of (v ^ 2 % pp)).l2), wd ((F5.of (v ^ 2 % pp)).l3), wd ((F5.of (v ^ 2 % pp)).l4)] 0 b5 0 [wd ((F5.of (v ^ 2 % pp)).l0), wd ((F5.of (v ^ 2 % pp)).l1), wd ((F5.of (v ^ 2 % pp)).l2), wd ((F5.of (v ^ 2 % pp)).l3), wd ((F5.of (v ^ 2 % pp)).l4)] 31 rfl (by kernel_rfl) Tryd.isAgg31 Tryd.sizeOf31 (by kernel_rfl) (by kernel_rfl)) ?_
  have hC6 := c_fsquares (v ^ 2) 2 (by decide)
  rw [pw_sq v 2 2, show 2 * 2 ^ 2 = 8 by decide] at hC6
  refine D_pure (v := F5.v (F5.of (v ^ 8 % pp))) (by kernel_rfl) hC6 (fun _ => by kernel_rfl) ?_
  refine D_held (F5.v x) (by kernel_rfl) (ldN [wd x.l0, wd x.l1, wd x.l2, wd x.l3, wd x.l4] 3 b1 0 [wd x.l0, wd x.l1, wd x.l2, wd x.l3, wd x.l4] 31 rfl (by kernel_rfl) Tryd.isAgg31 Tryd.sizeOf31 (by kernel_rfl) (by kernel_rfl)) ?_
  have hC7 := c_fmul (F5.of (v ^ 8 % pp)) x (F5.of_ok _) hx
  simp only [of_val_mod] at hC7
  rw [hv, pw_one v 8, show (8 + 1 : Nat) = 9 from rfl] at hC7
  refine D_pure (v := F5.v (F5.of (v ^ 9 % pp))) (by kernel_rfl) (hC7) (fun _ => by kernel_rfl) ?_
  refine D_fresh (fun nb0 => pt nb0 0) [.int .u64 0, .int .u64 0, .int .u64 0, .int .u64 0, .int .u64 0] 31 (by kernel_rfl) (fun w _ => by kernel_rfl) ?_
  intro b8 hb8 Hb8
  refine D_do (by kernel_rfl) (stN (L' := [⟨b8, [wd ((F5.of (v ^ 9 % pp)).l0), wd ((F5.of (v ^ 9 % pp)).l1), wd ((F5.of (v ^ 9 % pp)).l2), wd ((F5.of (v ^ 9 % pp)).l3), wd ((F5.of (v ^ 9 % pp)).l4)], 31⟩, ⟨b5, [wd ((F5.of (v ^ 2 % pp)).l0), wd ((F5.of (v ^ 2 % pp)).l1), wd ((F5.of (v ^ 2 % pp)).l2), wd ((F5.of (v ^ 2 % pp)).l3), wd ((F5.of (v ^ 2 % pp)).l4)], 31⟩, ⟨b3, [.int .u64 0, .int .u64 0, .int .u64 0, .int .u64 0, .int .u64 0], 31⟩, ⟨b2, [.int .u64 0, .int .u64 0, .int .u64 0, .int .u64 0, .int .u64 0], 31⟩, ⟨b1, [wd x.l0, wd x.l1, wd x.l2, wd x.l3, wd x.l4], 31⟩]) [wd ((F5.of (v ^ 9 % pp)).l0), wd ((F5.of (v ^ 9 % pp)).l1), wd ((F5.of (v ^ 9 % pp)).l2), wd ((F5.of (v ^ 9 % pp)).l3), wd ((F5.of (v ^ 9 % pp)).l4)] 0 b8 0 [.int .u64 0, .int .u64 0, .int .u64 0, .int .u64 0, .int .u64 0] 31 rfl (by kernel_rfl) (by kernel_rfl) Tryd.sizeOf31 (by simp [Value.oneCell']) (by kernel_rfl) (by simp) (by kernel_rfl)) ?_
  refine D_nil ?_
  refine E_then ?_
  refine C_seq ?_
  refine C_region ?_
  refine S_val (F5.v (F5.of (v ^ 9 % pp))) (by kernel_rfl) (ldN [wd ((F5.of (v ^ 9 % pp)).l0), wd ((F5.of (v ^ 9 % pp)).l1), wd ((F5.of (v ^ 9 % pp)).l2), wd ((F5.of (v ^ 9 % pp)).l3), wd ((F5.of (v ^ 9 % pp)).l4)] 0 b8 0 [wd ((F5.of (v ^ 9 % pp)).l0), wd ((F5.of (v ^ 9 % pp)).l1), wd ((F5.of (v ^ 9 % pp)).l2), wd ((F5.of (v ^ 9 % pp)).l3), wd ((F5.of (v ^ 9 % pp)).l4)] 31 rfl (by kernel_rfl) Tryd.isAgg31 Tryd.sizeOf31 (by kernel_rfl) (by kernel_rfl)) ?_
  refine S_val (F5.v (F5.of (v ^ 2 % pp))) (by kernel_rfl) (ldN [wd ((F5.of (v ^ 2 % pp)).l0), wd ((F5.of (v ^ 2 % pp)).l1), wd ((F5.of (v ^ 2 % pp)).l2), wd ((F5.of (v ^ 2 % pp)).l3), wd ((F5.of (v ^ 2 % pp)).l4)] 1 b5 0 [wd ((F5.of (v ^ 2 % pp)).l0), wd ((F5.of (v ^ 2 % pp)).l1), wd ((F5.of (v ^ 2 % pp)).l2), wd ((F5.of (v ^ 2 % pp)).l3), wd ((F5.of (v ^ 2 % pp)).l4)] 31 rfl (by kernel_rfl) Tryd.isAgg31 Tryd.sizeOf31 (by kernel_rfl) (by kernel_rfl)) ?_
  have hC9 := c_fmul (F5.of (v ^ 9 % pp)) (F5.of (v ^ 2 % pp)) (F5.of_ok _) (F5.of_ok _)
  simp only [of_val_mod] at hC9
  rw [pw_mul v 9 2, show (9 + 2 : Nat) = 11 from rfl] at hC9
  refine S_pure (v := F5.v (F5.of (v ^ 11 % pp))) (by kernel_rfl) (hC9) (fun _ => by kernel_rfl) ?_
  refine S_newv (fun nb0 => pt nb0 0) [.int .u64 0, .int .u64 0, .int .u64 0, .int .u64 0, .int .u64 0] 31 (by kernel_rfl) (fun w _ => by kernel_rfl) ?_
  intro b10 hb10 Hb10
  refine S_do (by kernel_rfl) (stN (L' := [⟨b10, [wd ((F5.of (v ^ 11 % pp)).l0), wd ((F5.of (v ^ 11 % pp)).l1), wd ((F5.of (v ^ 11 % pp)).l2), wd ((F5.of (v ^ 11 % pp)).l3), wd ((F5.of (v ^ 11 % pp)).l4)], 31⟩, ⟨b8, [wd ((F5.of (v ^ 9 % pp)).l0), wd ((F5.of (v ^ 9 % pp)).l1), wd ((F5.of (v ^ 9 % pp)).l2), wd ((F5.of (v ^ 9 % pp)).l3), wd ((F5.of (v ^ 9 % pp)).l4)], 31⟩, ⟨b5, [wd ((F5.of (v ^ 2 % pp)).l0), wd ((F5.of (v ^ 2 % pp)).l1), wd ((F5.of (v ^ 2 % pp)).l2), wd ((F5.of (v ^ 2 % pp)).l3), wd ((F5.of (v ^ 2 % pp)).l4)], 31⟩, ⟨b3, [.int .u64 0, .int .u64 0, .int .u64 0, .int .u64 0, .int .u64 0], 31⟩, ⟨b2, [.int .u64 0, .int .u64 0, .int .u64 0, .int .u64 0, .int .u64 0], 31⟩, ⟨b1, [wd x.l0, wd x.l1, wd x.l2, wd x.l3, wd x.l4], 31⟩]) [wd ((F5.of (v ^ 11 % pp)).l0), wd ((F5.of (v ^ 11 % pp)).l1), wd ((F5.of (v ^ 11 % pp)).l2), wd ((F5.of (v ^ 11 % pp)).l3), wd ((F5.of (v ^ 11 % pp)).l4)] 0 b10 0 [.int .u64 0, .int .u64 0, .int .u64 0, .int .u64 0, .int .u64 0] 31 rfl (by kernel_rfl) (by kernel_rfl) Tryd.sizeOf31 (by simp [Value.oneCell']) (by kernel_rfl) (by simp) (by kernel_rfl)) ?_
  refine S_nil ?_
  refine E_then ?_
  refine C_seq ?_
  refine C_drawn [.held, .held, .held, .held, .new, .eff] (by kernel_rfl) (by kernel_rfl) ?_
  refine D_held (F5.v (F5.of (v ^ 11 % pp))) (by kernel_rfl) (ldN [wd ((F5.of (v ^ 11 % pp)).l0), wd ((F5.of (v ^ 11 % pp)).l1), wd ((F5.of (v ^ 11 % pp)).l2), wd ((F5.of (v ^ 11 % pp)).l3), wd ((F5.of (v ^ 11 % pp)).l4)] 0 b10 0 [wd ((F5.of (v ^ 11 % pp)).l0), wd ((F5.of (v ^ 11 % pp)).l1), wd ((F5.of (v ^ 11 % pp)).l2), wd ((F5.of (v ^ 11 % pp)).l3), wd ((F5.of (v ^ 11 % pp)).l4)] 31 rfl (by kernel_rfl) Tryd.isAgg31 Tryd.sizeOf31 (by kernel_rfl) (by kernel_rfl)) ?_
  have hC11 := c_fsq (F5.of (v ^ 11 % pp)) (F5.of_ok _)
  simp only [of_val_mod] at hC11
  rw [pw_mul v 11 11, show (11 + 11 : Nat) = 22 from rfl] at hC11
  refine D_pure (v := F5.v (F5.of (v ^ 22 % pp))) (by kernel_rfl) (hC11) (fun _ => by kernel_rfl) ?_
  refine D_held (F5.v (F5.of (v ^ 9 % pp))) (by kernel_rfl) (ldN [wd ((F5.of (v ^ 9 % pp)).l0), wd ((F5.of (v ^ 9 % pp)).l1), wd ((F5.of (v ^ 9 % pp)).l2), wd ((F5.of (v ^ 9 % pp)).l3), wd ((F5.of (v ^ 9 % pp)).l4)] 1 b8 0 [wd ((F5.of (v ^ 9 % pp)).l0), wd ((F5.of (v ^ 9 % pp)).l1), wd ((F5.of (v ^ 9 % pp)).l2), wd ((F5.of (v ^ 9 % pp)).l3), wd ((F5.of (v ^ 9 % pp)).l4)] 31 rfl (by kernel_rfl) Tryd.isAgg31 Tryd.sizeOf31 (by kernel_rfl) (by kernel_rfl)) ?_
  have hC12 := c_fmul (F5.of (v ^ 22 % pp)) (F5.of (v ^ 9 % pp)) (F5.of_ok _) (F5.of_ok _)
  simp only [of_val_mod] at hC12
  rw [pw_mul v 22 9, show (22 + 9 : Nat) = 31 from rfl] at hC12
  refine D_pure (v := F5.v (F5.of (v ^ 31 % pp))) (by kernel_rfl) (hC12) (fun _ => by kernel_rfl) ?_
  refine D_fresh (fun nb0 => pt nb0 0) [.int .u64 0, .int .u64 0, .int .u64 0, .int .u64 0, .int .u64 0] 31 (by kernel_rfl) (fun w _ => by kernel_rfl) ?_
  intro b13 hb13 Hb13
  refine D_do (by kernel_rfl) (stN (L' := [⟨b13, [wd ((F5.of (v ^ 31 % pp)).l0), wd ((F5.of (v ^ 31 % pp)).l1), wd ((F5.of (v ^ 31 % pp)).l2), wd ((F5.of (v ^ 31 % pp)).l3), wd ((F5.of (v ^ 31 % pp)).l4)], 31⟩, ⟨b10, [wd ((F5.of (v ^ 11 % pp)).l0), wd ((F5.of (v ^ 11 % pp)).l1), wd ((F5.of (v ^ 11 % pp)).l2), wd ((F5.of (v ^ 11 % pp)).l3), wd ((F5.of (v ^ 11 % pp)).l4)], 31⟩, ⟨b8, [wd ((F5.of (v ^ 9 % pp)).l0), wd ((F5.of (v ^ 9 % pp)).l1), wd ((F5.of (v ^ 9 % pp)).l2), wd ((F5.of (v ^ 9 % pp)).l3), wd ((F5.of (v ^ 9 % pp)).l4)], 31⟩, ⟨b5, [wd ((F5.of (v ^ 2 % pp)).l0), wd ((F5.of (v ^ 2 % pp)).l1), wd ((F5.of (v ^ 2 % pp)).l2), wd ((F5.of (v ^ 2 % pp)).l3), wd ((F5.of (v ^ 2 % pp)).l4)], 31⟩, ⟨b3, [.int .u64 0, .int .u64 0, .int .u64 0, .int .u64 0, .int .u64 0], 31⟩, ⟨b2, [.int .u64 0, .int .u64 0, .int .u64 0, .int .u64 0, .int .u64 0], 31⟩, ⟨b1, [wd x.l0, wd x.l1, wd x.l2, wd x.l3, wd x.l4], 31⟩]) [wd ((F5.of (v ^ 31 % pp)).l0), wd ((F5.of (v ^ 31 % pp)).l1), wd ((F5.of (v ^ 31 % pp)).l2), wd ((F5.of (v ^ 31 % pp)).l3), wd ((F5.of (v ^ 31 % pp)).l4)] 0 b13 0 [.int .u64 0, .int .u64 0, .int .u64 0, .int .u64 0, .int .u64 0] 31 rfl (by kernel_rfl) (by kernel_rfl) Tryd.sizeOf31 (by simp [Value.oneCell']) (by kernel_rfl) (by simp) (by kernel_rfl)) ?_
  refine D_nil ?_
  refine E_then ?_
  refine C_seq ?_
  refine C_drawn [.held, .held, .held, .held, .new, .eff] (by kernel_rfl) (by kernel_rfl) ?_
  refine D_held (F5.v (F5.of (v ^ 31 % pp))) (by kernel_rfl) (ldN [wd ((F5.of (v ^ 31 % pp)).l0), wd ((F5.of (v ^ 31 % pp)).l1), wd ((F5.of (v ^ 31 % pp)).l2), wd ((F5.of (v ^ 31 % pp)).l3), wd ((F5.of (v ^ 31 % pp)).l4)] 0 b13 0 [wd ((F5.of (v ^ 31 % pp)).l0), wd ((F5.of (v ^ 31 % pp)).l1), wd ((F5.of (v ^ 31 % pp)).l2), wd ((F5.of (v ^ 31 % pp)).l3), wd ((F5.of (v ^ 31 % pp)).l4)] 31 rfl (by kernel_rfl) Tryd.isAgg31 Tryd.sizeOf31 (by kernel_rfl) (by kernel_rfl)) ?_
  have hC14 := c_fsquares (v ^ 31) 5 (by decide)
  rw [pw_sq v 31 5, show 31 * 2 ^ 5 = 992 by decide] at hC14
  refine D_pure (v := F5.v (F5.of (v ^ 992 % pp))) (by kernel_rfl) hC14 (fun _ => by kernel_rfl) ?_
  refine D_held (F5.v (F5.of (v ^ 31 % pp))) (by kernel_rfl) (ldN [wd ((F5.of (v ^ 31 % pp)).l0), wd ((F5.of (v ^ 31 % pp)).l1), wd ((F5.of (v ^ 31 % pp)).l2), wd ((F5.of (v ^ 31 % pp)).l3), wd ((F5.of (v ^ 31 % pp)).l4)] 0 b13 0 [wd ((F5.of (v ^ 31 % pp)).l0), wd ((F5.of (v ^ 31 % pp)).l1), wd ((F5.of (v ^ 31 % pp)).l2), wd ((F5.of (v ^ 31 % pp)).l3), wd ((F5.of (v ^ 31 % pp)).l4)] 31 rfl (by kernel_rfl) Tryd.isAgg31 Tryd.sizeOf31 (by kernel_rfl) (by kernel_rfl)) ?_
  have hC15 := c_fmul (F5.of (v ^ 992 % pp)) (F5.of (v ^ 31 % pp)) (F5.of_ok _) (F5.of_ok _)
  simp only [of_val_mod] at hC15
  rw [pw_mul v 992 31, show (992 + 31 : Nat) = 1023 from rfl] at hC15
  refine D_pure (v := F5.v (F5.of (v ^ 1023 % pp))) (by kernel_rfl) (hC15) (fun _ => by kernel_rfl) ?_
  refine D_fresh (fun nb0 => pt nb0 0) [.int .u64 0, .int .u64 0, .int .u64 0, .int .u64 0, .int .u64 0] 31 (by kernel_rfl) (fun w _ => by kernel_rfl) ?_
  intro b16 hb16 Hb16
  refine D_do (by kernel_rfl) (stN (L' := [⟨b16, [wd ((F5.of (v ^ 1023 % pp)).l0), wd ((F5.of (v ^ 1023 % pp)).l1), wd ((F5.of (v ^ 1023 % pp)).l2), wd ((F5.of (v ^ 1023 % pp)).l3), wd ((F5.of (v ^ 1023 % pp)).l4)], 31⟩, ⟨b13, [wd ((F5.of (v ^ 31 % pp)).l0), wd ((F5.of (v ^ 31 % pp)).l1), wd ((F5.of (v ^ 31 % pp)).l2), wd ((F5.of (v ^ 31 % pp)).l3), wd ((F5.of (v ^ 31 % pp)).l4)], 31⟩, ⟨b10, [wd ((F5.of (v ^ 11 % pp)).l0), wd ((F5.of (v ^ 11 % pp)).l1), wd ((F5.of (v ^ 11 % pp)).l2), wd ((F5.of (v ^ 11 % pp)).l3), wd ((F5.of (v ^ 11 % pp)).l4)], 31⟩, ⟨b8, [wd ((F5.of (v ^ 9 % pp)).l0), wd ((F5.of (v ^ 9 % pp)).l1), wd ((F5.of (v ^ 9 % pp)).l2), wd ((F5.of (v ^ 9 % pp)).l3), wd ((F5.of (v ^ 9 % pp)).l4)], 31⟩, ⟨b5, [wd ((F5.of (v ^ 2 % pp)).l0), wd ((F5.of (v ^ 2 % pp)).l1), wd ((F5.of (v ^ 2 % pp)).l2), wd ((F5.of (v ^ 2 % pp)).l3), wd ((F5.of (v ^ 2 % pp)).l4)], 31⟩, ⟨b3, [.int .u64 0, .int .u64 0, .int .u64 0, .int .u64 0, .int .u64 0], 31⟩, ⟨b2, [.int .u64 0, .int .u64 0, .int .u64 0, .int .u64 0, .int .u64 0], 31⟩, ⟨b1, [wd x.l0, wd x.l1, wd x.l2, wd x.l3, wd x.l4], 31⟩]) [wd ((F5.of (v ^ 1023 % pp)).l0), wd ((F5.of (v ^ 1023 % pp)).l1), wd ((F5.of (v ^ 1023 % pp)).l2), wd ((F5.of (v ^ 1023 % pp)).l3), wd ((F5.of (v ^ 1023 % pp)).l4)] 0 b16 0 [.int .u64 0, .int .u64 0, .int .u64 0, .int .u64 0, .int .u64 0] 31 rfl (by kernel_rfl) (by kernel_rfl) Tryd.sizeOf31 (by simp [Value.oneCell']) (by kernel_rfl) (by simp) (by kernel_rfl)) ?_
  refine D_nil ?_
  refine E_then ?_
  refine C_seq ?_
  refine C_drawn [.held, .held, .held, .held, .new, .eff] (by kernel_rfl) (by kernel_rfl) ?_
  refine D_held (F5.v (F5.of (v ^ 1023 % pp))) (by kernel_rfl) (ldN [wd ((F5.of (v ^ 1023 % pp)).l0), wd ((F5.of (v ^ 1023 % pp)).l1), wd ((F5.of (v ^ 1023 % pp)).l2), wd ((F5.of (v ^ 1023 % pp)).l3), wd ((F5.of (v ^ 1023 % pp)).l4)] 0 b16 0 [wd ((F5.of (v ^ 1023 % pp)).l0), wd ((F5.of (v ^ 1023 % pp)).l1), wd ((F5.of (v ^ 1023 % pp)).l2), wd ((F5.of (v ^ 1023 % pp)).l3), wd ((F5.of (v ^ 1023 % pp)).l4)] 31 rfl (by kernel_rfl) Tryd.isAgg31 Tryd.sizeOf31 (by kernel_rfl) (by kernel_rfl)) ?_
  have hC17 := c_fsquares (v ^ 1023) 10 (by decide)
  rw [pw_sq v 1023 10, show 1023 * 2 ^ 10 = 1047552 by decide] at hC17
  refine D_pure (v := F5.v (F5.of (v ^ 1047552 % pp))) (by kernel_rfl) hC17 (fun _ => by kernel_rfl) ?_
  refine D_held (F5.v (F5.of (v ^ 1023 % pp))) (by kernel_rfl) (ldN [wd ((F5.of (v ^ 1023 % pp)).l0), wd ((F5.of (v ^ 1023 % pp)).l1), wd ((F5.of (v ^ 1023 % pp)).l2), wd ((F5.of (v ^ 1023 % pp)).l3), wd ((F5.of (v ^ 1023 % pp)).l4)] 0 b16 0 [wd ((F5.of (v ^ 1023 % pp)).l0), wd ((F5.of (v ^ 1023 % pp)).l1), wd ((F5.of (v ^ 1023 % pp)).l2), wd ((F5.of (v ^ 1023 % pp)).l3), wd ((F5.of (v ^ 1023 % pp)).l4)] 31 rfl (by kernel_rfl) Tryd.isAgg31 Tryd.sizeOf31 (by kernel_rfl) (by kernel_rfl)) ?_
  have hC18 := c_fmul (F5.of (v ^ 1047552 % pp)) (F5.of (v ^ 1023 % pp)) (F5.of_ok _) (F5.of_ok _)
  simp only [of_val_mod] at hC18
  rw [pw_mul v 1047552 1023, show (1047552 + 1023 : Nat) = 1048575 from rfl] at hC18
  refine D_pure (v := F5.v (F5.of (v ^ 1048575 % pp))) (by kernel_rfl) (hC18) (fun _ => by kernel_rfl) ?_
  refine D_fresh (fun nb0 => pt nb0 0) [.int .u64 0, .int .u64 0, .int .u64 0, .int .u64 0, .int .u64 0] 31 (by kernel_rfl) (fun w _ => by kernel_rfl) ?_
  intro b19 hb19 Hb19
  refine D_do (by kernel_rfl) (stN (L' := [⟨b19, [wd ((F5.of (v ^ 1048575 % pp)).l0), wd ((F5.of (v ^ 1048575 % pp)).l1), wd ((F5.of (v ^ 1048575 % pp)).l2), wd ((F5.of (v ^ 1048575 % pp)).l3), wd ((F5.of (v ^ 1048575 % pp)).l4)], 31⟩, ⟨b16, [wd ((F5.of (v ^ 1023 % pp)).l0), wd ((F5.of (v ^ 1023 % pp)).l1), wd ((F5.of (v ^ 1023 % pp)).l2), wd ((F5.of (v ^ 1023 % pp)).l3), wd ((F5.of (v ^ 1023 % pp)).l4)], 31⟩, ⟨b13, [wd ((F5.of (v ^ 31 % pp)).l0), wd ((F5.of (v ^ 31 % pp)).l1), wd ((F5.of (v ^ 31 % pp)).l2), wd ((F5.of (v ^ 31 % pp)).l3), wd ((F5.of (v ^ 31 % pp)).l4)], 31⟩, ⟨b10, [wd ((F5.of (v ^ 11 % pp)).l0), wd ((F5.of (v ^ 11 % pp)).l1), wd ((F5.of (v ^ 11 % pp)).l2), wd ((F5.of (v ^ 11 % pp)).l3), wd ((F5.of (v ^ 11 % pp)).l4)], 31⟩, ⟨b8, [wd ((F5.of (v ^ 9 % pp)).l0), wd ((F5.of (v ^ 9 % pp)).l1), wd ((F5.of (v ^ 9 % pp)).l2), wd ((F5.of (v ^ 9 % pp)).l3), wd ((F5.of (v ^ 9 % pp)).l4)], 31⟩, ⟨b5, [wd ((F5.of (v ^ 2 % pp)).l0), wd ((F5.of (v ^ 2 % pp)).l1), wd ((F5.of (v ^ 2 % pp)).l2), wd ((F5.of (v ^ 2 % pp)).l3), wd ((F5.of (v ^ 2 % pp)).l4)], 31⟩, ⟨b3, [.int .u64 0, .int .u64 0, .int .u64 0, .int .u64 0, .int .u64 0], 31⟩, ⟨b2, [.int .u64 0, .int .u64 0, .int .u64 0, .int .u64 0, .int .u64 0], 31⟩, ⟨b1, [wd x.l0, wd x.l1, wd x.l2, wd x.l3, wd x.l4], 31⟩]) [wd ((F5.of (v ^ 1048575 % pp)).l0), wd ((F5.of (v ^ 1048575 % pp)).l1), wd ((F5.of (v ^ 1048575 % pp)).l2), wd ((F5.of (v ^ 1048575 % pp)).l3), wd ((F5.of (v ^ 1048575 % pp)).l4)] 0 b19 0 [.int .u64 0, .int .u64 0, .int .u64 0, .int .u64 0, .int .u64 0] 31 rfl (by kernel_rfl) (by kernel_rfl) Tryd.sizeOf31 (by simp [Value.oneCell']) (by kernel_rfl) (by simp) (by kernel_rfl)) ?_
  refine D_nil ?_
  refine E_then ?_
  refine C_seq ?_
  refine C_drawn [.held, .held, .held, .held, .new, .eff] (by kernel_rfl) (by kernel_rfl) ?_
  refine D_held (F5.v (F5.of (v ^ 1048575 % pp))) (by kernel_rfl) (ldN [wd ((F5.of (v ^ 1048575 % pp)).l0), wd ((F5.of (v ^ 1048575 % pp)).l1), wd ((F5.of (v ^ 1048575 % pp)).l2), wd ((F5.of (v ^ 1048575 % pp)).l3), wd ((F5.of (v ^ 1048575 % pp)).l4)] 0 b19 0 [wd ((F5.of (v ^ 1048575 % pp)).l0), wd ((F5.of (v ^ 1048575 % pp)).l1), wd ((F5.of (v ^ 1048575 % pp)).l2), wd ((F5.of (v ^ 1048575 % pp)).l3), wd ((F5.of (v ^ 1048575 % pp)).l4)] 31 rfl (by kernel_rfl) Tryd.isAgg31 Tryd.sizeOf31 (by kernel_rfl) (by kernel_rfl)) ?_
  have hC20 := c_fsquares (v ^ 1048575) 20 (by decide)
  rw [pw_sq v 1048575 20, show 1048575 * 2 ^ 20 = 1099510579200 by decide] at hC20
  refine D_pure (v := F5.v (F5.of (v ^ 1099510579200 % pp))) (by kernel_rfl) hC20 (fun _ => by kernel_rfl) ?_
  refine D_held (F5.v (F5.of (v ^ 1048575 % pp))) (by kernel_rfl) (ldN [wd ((F5.of (v ^ 1048575 % pp)).l0), wd ((F5.of (v ^ 1048575 % pp)).l1), wd ((F5.of (v ^ 1048575 % pp)).l2), wd ((F5.of (v ^ 1048575 % pp)).l3), wd ((F5.of (v ^ 1048575 % pp)).l4)] 0 b19 0 [wd ((F5.of (v ^ 1048575 % pp)).l0), wd ((F5.of (v ^ 1048575 % pp)).l1), wd ((F5.of (v ^ 1048575 % pp)).l2), wd ((F5.of (v ^ 1048575 % pp)).l3), wd ((F5.of (v ^ 1048575 % pp)).l4)] 31 rfl (by kernel_rfl) Tryd.isAgg31 Tryd.sizeOf31 (by kernel_rfl) (by kernel_rfl)) ?_
  have hC21 := c_fmul (F5.of (v ^ 1099510579200 % pp)) (F5.of (v ^ 1048575 % pp)) (F5.of_ok _) (F5.of_ok _)
  simp only [of_val_mod] at hC21
  rw [pw_mul v 1099510579200 1048575, show (1099510579200 + 1048575 : Nat) = 1099511627775 from rfl] at hC21
  refine D_pure (v := F5.v (F5.of (v ^ 1099511627775 % pp))) (by kernel_rfl) (hC21) (fun _ => by kernel_rfl) ?_
  refine D_fresh (fun nb0 => pt nb0 0) [.int .u64 0, .int .u64 0, .int .u64 0, .int .u64 0, .int .u64 0] 31 (by kernel_rfl) (fun w _ => by kernel_rfl) ?_
  intro b22 hb22 Hb22
  refine D_do (by kernel_rfl) (stN (L' := [⟨b22, [wd ((F5.of (v ^ 1099511627775 % pp)).l0), wd ((F5.of (v ^ 1099511627775 % pp)).l1), wd ((F5.of (v ^ 1099511627775 % pp)).l2), wd ((F5.of (v ^ 1099511627775 % pp)).l3), wd ((F5.of (v ^ 1099511627775 % pp)).l4)], 31⟩, ⟨b19, [wd ((F5.of (v ^ 1048575 % pp)).l0), wd ((F5.of (v ^ 1048575 % pp)).l1), wd ((F5.of (v ^ 1048575 % pp)).l2), wd ((F5.of (v ^ 1048575 % pp)).l3), wd ((F5.of (v ^ 1048575 % pp)).l4)], 31⟩, ⟨b16, [wd ((F5.of (v ^ 1023 % pp)).l0), wd ((F5.of (v ^ 1023 % pp)).l1), wd ((F5.of (v ^ 1023 % pp)).l2), wd ((F5.of (v ^ 1023 % pp)).l3), wd ((F5.of (v ^ 1023 % pp)).l4)], 31⟩, ⟨b13, [wd ((F5.of (v ^ 31 % pp)).l0), wd ((F5.of (v ^ 31 % pp)).l1), wd ((F5.of (v ^ 31 % pp)).l2), wd ((F5.of (v ^ 31 % pp)).l3), wd ((F5.of (v ^ 31 % pp)).l4)], 31⟩, ⟨b10, [wd ((F5.of (v ^ 11 % pp)).l0), wd ((F5.of (v ^ 11 % pp)).l1), wd ((F5.of (v ^ 11 % pp)).l2), wd ((F5.of (v ^ 11 % pp)).l3), wd ((F5.of (v ^ 11 % pp)).l4)], 31⟩, ⟨b8, [wd ((F5.of (v ^ 9 % pp)).l0), wd ((F5.of (v ^ 9 % pp)).l1), wd ((F5.of (v ^ 9 % pp)).l2), wd ((F5.of (v ^ 9 % pp)).l3), wd ((F5.of (v ^ 9 % pp)).l4)], 31⟩, ⟨b5, [wd ((F5.of (v ^ 2 % pp)).l0), wd ((F5.of (v ^ 2 % pp)).l1), wd ((F5.of (v ^ 2 % pp)).l2), wd ((F5.of (v ^ 2 % pp)).l3), wd ((F5.of (v ^ 2 % pp)).l4)], 31⟩, ⟨b3, [.int .u64 0, .int .u64 0, .int .u64 0, .int .u64 0, .int .u64 0], 31⟩, ⟨b2, [.int .u64 0, .int .u64 0, .int .u64 0, .int .u64 0, .int .u64 0], 31⟩, ⟨b1, [wd x.l0, wd x.l1, wd x.l2, wd x.l3, wd x.l4], 31⟩]) [wd ((F5.of (v ^ 1099511627775 % pp)).l0), wd ((F5.of (v ^ 1099511627775 % pp)).l1), wd ((F5.of (v ^ 1099511627775 % pp)).l2), wd ((F5.of (v ^ 1099511627775 % pp)).l3), wd ((F5.of (v ^ 1099511627775 % pp)).l4)] 0 b22 0 [.int .u64 0, .int .u64 0, .int .u64 0, .int .u64 0, .int .u64 0] 31 rfl (by kernel_rfl) (by kernel_rfl) Tryd.sizeOf31 (by simp [Value.oneCell']) (by kernel_rfl) (by simp) (by kernel_rfl)) ?_
  refine D_nil ?_
  refine E_then ?_
  refine C_seq ?_
  refine C_drawn [.held, .held, .held, .held, .new, .eff] (by kernel_rfl) (by kernel_rfl) ?_
  refine D_held (F5.v (F5.of (v ^ 1099511627775 % pp))) (by kernel_rfl) (ldN [wd ((F5.of (v ^ 1099511627775 % pp)).l0), wd ((F5.of (v ^ 1099511627775 % pp)).l1), wd ((F5.of (v ^ 1099511627775 % pp)).l2), wd ((F5.of (v ^ 1099511627775 % pp)).l3), wd ((F5.of (v ^ 1099511627775 % pp)).l4)] 0 b22 0 [wd ((F5.of (v ^ 1099511627775 % pp)).l0), wd ((F5.of (v ^ 1099511627775 % pp)).l1), wd ((F5.of (v ^ 1099511627775 % pp)).l2), wd ((F5.of (v ^ 1099511627775 % pp)).l3), wd ((F5.of (v ^ 1099511627775 % pp)).l4)] 31 rfl (by kernel_rfl) Tryd.isAgg31 Tryd.sizeOf31 (by kernel_rfl) (by kernel_rfl)) ?_
  have hC23 := c_fsquares (v ^ 1099511627775) 10 (by decide)
  rw [pw_sq v 1099511627775 10, show 1099511627775 * 2 ^ 10 = 1125899906841600 by decide] at hC23
  refine D_pure (v := F5.v (F5.of (v ^ 1125899906841600 % pp))) (by kernel_rfl) hC23 (fun _ => by kernel_rfl) ?_
  refine D_held (F5.v (F5.of (v ^ 1023 % pp))) (by kernel_rfl) (ldN [wd ((F5.of (v ^ 1023 % pp)).l0), wd ((F5.of (v ^ 1023 % pp)).l1), wd ((F5.of (v ^ 1023 % pp)).l2), wd ((F5.of (v ^ 1023 % pp)).l3), wd ((F5.of (v ^ 1023 % pp)).l4)] 2 b16 0 [wd ((F5.of (v ^ 1023 % pp)).l0), wd ((F5.of (v ^ 1023 % pp)).l1), wd ((F5.of (v ^ 1023 % pp)).l2), wd ((F5.of (v ^ 1023 % pp)).l3), wd ((F5.of (v ^ 1023 % pp)).l4)] 31 rfl (by kernel_rfl) Tryd.isAgg31 Tryd.sizeOf31 (by kernel_rfl) (by kernel_rfl)) ?_
  have hC24 := c_fmul (F5.of (v ^ 1125899906841600 % pp)) (F5.of (v ^ 1023 % pp)) (F5.of_ok _) (F5.of_ok _)
  simp only [of_val_mod] at hC24
  rw [pw_mul v 1125899906841600 1023, show (1125899906841600 + 1023 : Nat) = 1125899906842623 from rfl] at hC24
  refine D_pure (v := F5.v (F5.of (v ^ 1125899906842623 % pp))) (by kernel_rfl) (hC24) (fun _ => by kernel_rfl) ?_
  refine D_fresh (fun nb0 => pt nb0 0) [.int .u64 0, .int .u64 0, .int .u64 0, .int .u64 0, .int .u64 0] 31 (by kernel_rfl) (fun w _ => by kernel_rfl) ?_
  intro b25 hb25 Hb25
  refine D_do (by kernel_rfl) (stN (L' := [⟨b25, [wd ((F5.of (v ^ 1125899906842623 % pp)).l0), wd ((F5.of (v ^ 1125899906842623 % pp)).l1), wd ((F5.of (v ^ 1125899906842623 % pp)).l2), wd ((F5.of (v ^ 1125899906842623 % pp)).l3), wd ((F5.of (v ^ 1125899906842623 % pp)).l4)], 31⟩, ⟨b22, [wd ((F5.of (v ^ 1099511627775 % pp)).l0), wd ((F5.of (v ^ 1099511627775 % pp)).l1), wd ((F5.of (v ^ 1099511627775 % pp)).l2), wd ((F5.of (v ^ 1099511627775 % pp)).l3), wd ((F5.of (v ^ 1099511627775 % pp)).l4)], 31⟩, ⟨b19, [wd ((F5.of (v ^ 1048575 % pp)).l0), wd ((F5.of (v ^ 1048575 % pp)).l1), wd ((F5.of (v ^ 1048575 % pp)).l2), wd ((F5.of (v ^ 1048575 % pp)).l3), wd ((F5.of (v ^ 1048575 % pp)).l4)], 31⟩, ⟨b16, [wd ((F5.of (v ^ 1023 % pp)).l0), wd ((F5.of (v ^ 1023 % pp)).l1), wd ((F5.of (v ^ 1023 % pp)).l2), wd ((F5.of (v ^ 1023 % pp)).l3), wd ((F5.of (v ^ 1023 % pp)).l4)], 31⟩, ⟨b13, [wd ((F5.of (v ^ 31 % pp)).l0), wd ((F5.of (v ^ 31 % pp)).l1), wd ((F5.of (v ^ 31 % pp)).l2), wd ((F5.of (v ^ 31 % pp)).l3), wd ((F5.of (v ^ 31 % pp)).l4)], 31⟩, ⟨b10, [wd ((F5.of (v ^ 11 % pp)).l0), wd ((F5.of (v ^ 11 % pp)).l1), wd ((F5.of (v ^ 11 % pp)).l2), wd ((F5.of (v ^ 11 % pp)).l3), wd ((F5.of (v ^ 11 % pp)).l4)], 31⟩, ⟨b8, [wd ((F5.of (v ^ 9 % pp)).l0), wd ((F5.of (v ^ 9 % pp)).l1), wd ((F5.of (v ^ 9 % pp)).l2), wd ((F5.of (v ^ 9 % pp)).l3), wd ((F5.of (v ^ 9 % pp)).l4)], 31⟩, ⟨b5, [wd ((F5.of (v ^ 2 % pp)).l0), wd ((F5.of (v ^ 2 % pp)).l1), wd ((F5.of (v ^ 2 % pp)).l2), wd ((F5.of (v ^ 2 % pp)).l3), wd ((F5.of (v ^ 2 % pp)).l4)], 31⟩, ⟨b3, [.int .u64 0, .int .u64 0, .int .u64 0, .int .u64 0, .int .u64 0], 31⟩, ⟨b2, [.int .u64 0, .int .u64 0, .int .u64 0, .int .u64 0, .int .u64 0], 31⟩, ⟨b1, [wd x.l0, wd x.l1, wd x.l2, wd x.l3, wd x.l4], 31⟩]) [wd ((F5.of (v ^ 1125899906842623 % pp)).l0), wd ((F5.of (v ^ 1125899906842623 % pp)).l1), wd ((F5.of (v ^ 1125899906842623 % pp)).l2), wd ((F5.of (v ^ 1125899906842623 % pp)).l3), wd ((F5.of (v ^ 1125899906842623 % pp)).l4)] 0 b25 0 [.int .u64 0, .int .u64 0, .int .u64 0, .int .u64 0, .int .u64 0] 31 rfl (by kernel_rfl) (by kernel_rfl) Tryd.sizeOf31 (by simp [Value.oneCell']) (by kernel_rfl) (by simp) (by kernel_rfl)) ?_
  refine D_nil ?_
  refine E_then ?_
  refine C_seq ?_
  refine C_drawn [.held, .held, .held, .held, .new, .eff] (by kernel_rfl) (by kernel_rfl) ?_
  refine D_held (F5.v (F5.of (v ^ 1125899906842623 % pp))) (by kernel_rfl) (ldN [wd ((F5.of (v ^ 1125899906842623 % pp)).l0), wd ((F5.of (v ^ 1125899906842623 % pp)).l1), wd ((F5.of (v ^ 1125899906842623 % pp)).l2), wd ((F5.of (v ^ 1125899906842623 % pp)).l3), wd ((F5.of (v ^ 1125899906842623 % pp)).l4)] 0 b25 0 [wd ((F5.of (v ^ 1125899906842623 % pp)).l0), wd ((F5.of (v ^ 1125899906842623 % pp)).l1), wd ((F5.of (v ^ 1125899906842623 % pp)).l2), wd ((F5.of (v ^ 1125899906842623 % pp)).l3), wd ((F5.of (v ^ 1125899906842623 % pp)).l4)] 31 rfl (by kernel_rfl) Tryd.isAgg31 Tryd.sizeOf31 (by kernel_rfl) (by kernel_rfl)) ?_
  have hC26 := c_fsquares (v ^ 1125899906842623) 50 (by decide)
  rw [pw_sq v 1125899906842623 50, show 1125899906842623 * 2 ^ 50 = 1267650600228228275596796362752 by decide] at hC26
  refine D_pure (v := F5.v (F5.of (v ^ 1267650600228228275596796362752 % pp))) (by kernel_rfl) hC26 (fun _ => by kernel_rfl) ?_
  refine D_held (F5.v (F5.of (v ^ 1125899906842623 % pp))) (by kernel_rfl) (ldN [wd ((F5.of (v ^ 1125899906842623 % pp)).l0), wd ((F5.of (v ^ 1125899906842623 % pp)).l1), wd ((F5.of (v ^ 1125899906842623 % pp)).l2), wd ((F5.of (v ^ 1125899906842623 % pp)).l3), wd ((F5.of (v ^ 1125899906842623 % pp)).l4)] 0 b25 0 [wd ((F5.of (v ^ 1125899906842623 % pp)).l0), wd ((F5.of (v ^ 1125899906842623 % pp)).l1), wd ((F5.of (v ^ 1125899906842623 % pp)).l2), wd ((F5.of (v ^ 1125899906842623 % pp)).l3), wd ((F5.of (v ^ 1125899906842623 % pp)).l4)] 31 rfl (by kernel_rfl) Tryd.isAgg31 Tryd.sizeOf31 (by kernel_rfl) (by kernel_rfl)) ?_
  have hC27 := c_fmul (F5.of (v ^ 1267650600228228275596796362752 % pp)) (F5.of (v ^ 1125899906842623 % pp)) (F5.of_ok _) (F5.of_ok _)
  simp only [of_val_mod] at hC27
  rw [pw_mul v 1267650600228228275596796362752 1125899906842623, show (1267650600228228275596796362752 + 1125899906842623 : Nat) = 1267650600228229401496703205375 from rfl] at hC27
  refine D_pure (v := F5.v (F5.of (v ^ 1267650600228229401496703205375 % pp))) (by kernel_rfl) (hC27) (fun _ => by kernel_rfl) ?_
  refine D_fresh (fun nb0 => pt nb0 0) [.int .u64 0, .int .u64 0, .int .u64 0, .int .u64 0, .int .u64 0] 31 (by kernel_rfl) (fun w _ => by kernel_rfl) ?_
  intro b28 hb28 Hb28
  refine D_do (by kernel_rfl) (stN (L' := [⟨b28, [wd ((F5.of (v ^ 1267650600228229401496703205375 % pp)).l0), wd ((F5.of (v ^ 1267650600228229401496703205375 % pp)).l1), wd ((F5.of (v ^ 1267650600228229401496703205375 % pp)).l2), wd ((F5.of (v ^ 1267650600228229401496703205375 % pp)).l3), wd ((F5.of (v ^ 1267650600228229401496703205375 % pp)).l4)], 31⟩, ⟨b25, [wd ((F5.of (v ^ 1125899906842623 % pp)).l0), wd ((F5.of (v ^ 1125899906842623 % pp)).l1), wd ((F5.of (v ^ 1125899906842623 % pp)).l2), wd ((F5.of (v ^ 1125899906842623 % pp)).l3), wd ((F5.of (v ^ 1125899906842623 % pp)).l4)], 31⟩, ⟨b22, [wd ((F5.of (v ^ 1099511627775 % pp)).l0), wd ((F5.of (v ^ 1099511627775 % pp)).l1), wd ((F5.of (v ^ 1099511627775 % pp)).l2), wd ((F5.of (v ^ 1099511627775 % pp)).l3), wd ((F5.of (v ^ 1099511627775 % pp)).l4)], 31⟩, ⟨b19, [wd ((F5.of (v ^ 1048575 % pp)).l0), wd ((F5.of (v ^ 1048575 % pp)).l1), wd ((F5.of (v ^ 1048575 % pp)).l2), wd ((F5.of (v ^ 1048575 % pp)).l3), wd ((F5.of (v ^ 1048575 % pp)).l4)], 31⟩, ⟨b16, [wd ((F5.of (v ^ 1023 % pp)).l0), wd ((F5.of (v ^ 1023 % pp)).l1), wd ((F5.of (v ^ 1023 % pp)).l2), wd ((F5.of (v ^ 1023 % pp)).l3), wd ((F5.of (v ^ 1023 % pp)).l4)], 31⟩, ⟨b13, [wd ((F5.of (v ^ 31 % pp)).l0), wd ((F5.of (v ^ 31 % pp)).l1), wd ((F5.of (v ^ 31 % pp)).l2), wd ((F5.of (v ^ 31 % pp)).l3), wd ((F5.of (v ^ 31 % pp)).l4)], 31⟩, ⟨b10, [wd ((F5.of (v ^ 11 % pp)).l0), wd ((F5.of (v ^ 11 % pp)).l1), wd ((F5.of (v ^ 11 % pp)).l2), wd ((F5.of (v ^ 11 % pp)).l3), wd ((F5.of (v ^ 11 % pp)).l4)], 31⟩, ⟨b8, [wd ((F5.of (v ^ 9 % pp)).l0), wd ((F5.of (v ^ 9 % pp)).l1), wd ((F5.of (v ^ 9 % pp)).l2), wd ((F5.of (v ^ 9 % pp)).l3), wd ((F5.of (v ^ 9 % pp)).l4)], 31⟩, ⟨b5, [wd ((F5.of (v ^ 2 % pp)).l0), wd ((F5.of (v ^ 2 % pp)).l1), wd ((F5.of (v ^ 2 % pp)).l2), wd ((F5.of (v ^ 2 % pp)).l3), wd ((F5.of (v ^ 2 % pp)).l4)], 31⟩, ⟨b3, [.int .u64 0, .int .u64 0, .int .u64 0, .int .u64 0, .int .u64 0], 31⟩, ⟨b2, [.int .u64 0, .int .u64 0, .int .u64 0, .int .u64 0, .int .u64 0], 31⟩, ⟨b1, [wd x.l0, wd x.l1, wd x.l2, wd x.l3, wd x.l4], 31⟩]) [wd ((F5.of (v ^ 1267650600228229401496703205375 % pp)).l0), wd ((F5.of (v ^ 1267650600228229401496703205375 % pp)).l1), wd ((F5.of (v ^ 1267650600228229401496703205375 % pp)).l2), wd ((F5.of (v ^ 1267650600228229401496703205375 % pp)).l3), wd ((F5.of (v ^ 1267650600228229401496703205375 % pp)).l4)] 0 b28 0 [.int .u64 0, .int .u64 0, .int .u64 0, .int .u64 0, .int .u64 0] 31 rfl (by kernel_rfl) (by kernel_rfl) Tryd.sizeOf31 (by simp [Value.oneCell']) (by kernel_rfl) (by simp) (by kernel_rfl)) ?_
  refine D_nil ?_
  refine E_then ?_
  refine C_seq ?_
  refine C_drawn [.held, .held, .held, .held, .new, .eff] (by kernel_rfl) (by kernel_rfl) ?_
  refine D_held (F5.v (F5.of (v ^ 1267650600228229401496703205375 % pp))) (by kernel_rfl) (ldN [wd ((F5.of (v ^ 1267650600228229401496703205375 % pp)).l0), wd ((F5.of (v ^ 1267650600228229401496703205375 % pp)).l1), wd ((F5.of (v ^ 1267650600228229401496703205375 % pp)).l2), wd ((F5.of (v ^ 1267650600228229401496703205375 % pp)).l3), wd ((F5.of (v ^ 1267650600228229401496703205375 % pp)).l4)] 0 b28 0 [wd ((F5.of (v ^ 1267650600228229401496703205375 % pp)).l0), wd ((F5.of (v ^ 1267650600228229401496703205375 % pp)).l1), wd ((F5.of (v ^ 1267650600228229401496703205375 % pp)).l2), wd ((F5.of (v ^ 1267650600228229401496703205375 % pp)).l3), wd ((F5.of (v ^ 1267650600228229401496703205375 % pp)).l4)] 31 rfl (by kernel_rfl) Tryd.isAgg31 Tryd.sizeOf31 (by kernel_rfl) (by kernel_rfl)) ?_
  have hC29 := c_fsquares (v ^ 1267650600228229401496703205375) 100 (by decide)
  rw [pw_sq v 1267650600228229401496703205375 100, show 1267650600228229401496703205375 * 2 ^ 100 = 1606938044258990275541962092339894951921974764381296132096000 by decide] at hC29
  refine D_pure (v := F5.v (F5.of (v ^ 1606938044258990275541962092339894951921974764381296132096000 % pp))) (by kernel_rfl) hC29 (fun _ => by kernel_rfl) ?_
  refine D_held (F5.v (F5.of (v ^ 1267650600228229401496703205375 % pp))) (by kernel_rfl) (ldN [wd ((F5.of (v ^ 1267650600228229401496703205375 % pp)).l0), wd ((F5.of (v ^ 1267650600228229401496703205375 % pp)).l1), wd ((F5.of (v ^ 1267650600228229401496703205375 % pp)).l2), wd ((F5.of (v ^ 1267650600228229401496703205375 % pp)).l3), wd ((F5.of (v ^ 1267650600228229401496703205375 % pp)).l4)] 0 b28 0 [wd ((F5.of (v ^ 1267650600228229401496703205375 % pp)).l0), wd ((F5.of (v ^ 1267650600228229401496703205375 % pp)).l1), wd ((F5.of (v ^ 1267650600228229401496703205375 % pp)).l2), wd ((F5.of (v ^ 1267650600228229401496703205375 % pp)).l3), wd ((F5.of (v ^ 1267650600228229401496703205375 % pp)).l4)] 31 rfl (by kernel_rfl) Tryd.isAgg31 Tryd.sizeOf31 (by kernel_rfl) (by kernel_rfl)) ?_
  have hC30 := c_fmul (F5.of (v ^ 1606938044258990275541962092339894951921974764381296132096000 % pp)) (F5.of (v ^ 1267650600228229401496703205375 % pp)) (F5.of_ok _) (F5.of_ok _)
  simp only [of_val_mod] at hC30
  rw [pw_mul v 1606938044258990275541962092339894951921974764381296132096000 1267650600228229401496703205375, show (1606938044258990275541962092339894951921974764381296132096000 + 1267650600228229401496703205375 : Nat) = 1606938044258990275541962092341162602522202993782792835301375 from rfl] at hC30
  refine D_pure (v := F5.v (F5.of (v ^ 1606938044258990275541962092341162602522202993782792835301375 % pp))) (by kernel_rfl) (hC30) (fun _ => by kernel_rfl) ?_
  refine D_fresh (fun nb0 => pt nb0 0) [.int .u64 0, .int .u64 0, .int .u64 0, .int .u64 0, .int .u64 0] 31 (by kernel_rfl) (fun w _ => by kernel_rfl) ?_
  intro b31 hb31 Hb31
  refine D_do (by kernel_rfl) (stN (L' := [⟨b31, [wd ((F5.of (v ^ 1606938044258990275541962092341162602522202993782792835301375 % pp)).l0), wd ((F5.of (v ^ 1606938044258990275541962092341162602522202993782792835301375 % pp)).l1), wd ((F5.of (v ^ 1606938044258990275541962092341162602522202993782792835301375 % pp)).l2), wd ((F5.of (v ^ 1606938044258990275541962092341162602522202993782792835301375 % pp)).l3), wd ((F5.of (v ^ 1606938044258990275541962092341162602522202993782792835301375 % pp)).l4)], 31⟩, ⟨b28, [wd ((F5.of (v ^ 1267650600228229401496703205375 % pp)).l0), wd ((F5.of (v ^ 1267650600228229401496703205375 % pp)).l1), wd ((F5.of (v ^ 1267650600228229401496703205375 % pp)).l2), wd ((F5.of (v ^ 1267650600228229401496703205375 % pp)).l3), wd ((F5.of (v ^ 1267650600228229401496703205375 % pp)).l4)], 31⟩, ⟨b25, [wd ((F5.of (v ^ 1125899906842623 % pp)).l0), wd ((F5.of (v ^ 1125899906842623 % pp)).l1), wd ((F5.of (v ^ 1125899906842623 % pp)).l2), wd ((F5.of (v ^ 1125899906842623 % pp)).l3), wd ((F5.of (v ^ 1125899906842623 % pp)).l4)], 31⟩, ⟨b22, [wd ((F5.of (v ^ 1099511627775 % pp)).l0), wd ((F5.of (v ^ 1099511627775 % pp)).l1), wd ((F5.of (v ^ 1099511627775 % pp)).l2), wd ((F5.of (v ^ 1099511627775 % pp)).l3), wd ((F5.of (v ^ 1099511627775 % pp)).l4)], 31⟩, ⟨b19, [wd ((F5.of (v ^ 1048575 % pp)).l0), wd ((F5.of (v ^ 1048575 % pp)).l1), wd ((F5.of (v ^ 1048575 % pp)).l2), wd ((F5.of (v ^ 1048575 % pp)).l3), wd ((F5.of (v ^ 1048575 % pp)).l4)], 31⟩, ⟨b16, [wd ((F5.of (v ^ 1023 % pp)).l0), wd ((F5.of (v ^ 1023 % pp)).l1), wd ((F5.of (v ^ 1023 % pp)).l2), wd ((F5.of (v ^ 1023 % pp)).l3), wd ((F5.of (v ^ 1023 % pp)).l4)], 31⟩, ⟨b13, [wd ((F5.of (v ^ 31 % pp)).l0), wd ((F5.of (v ^ 31 % pp)).l1), wd ((F5.of (v ^ 31 % pp)).l2), wd ((F5.of (v ^ 31 % pp)).l3), wd ((F5.of (v ^ 31 % pp)).l4)], 31⟩, ⟨b10, [wd ((F5.of (v ^ 11 % pp)).l0), wd ((F5.of (v ^ 11 % pp)).l1), wd ((F5.of (v ^ 11 % pp)).l2), wd ((F5.of (v ^ 11 % pp)).l3), wd ((F5.of (v ^ 11 % pp)).l4)], 31⟩, ⟨b8, [wd ((F5.of (v ^ 9 % pp)).l0), wd ((F5.of (v ^ 9 % pp)).l1), wd ((F5.of (v ^ 9 % pp)).l2), wd ((F5.of (v ^ 9 % pp)).l3), wd ((F5.of (v ^ 9 % pp)).l4)], 31⟩, ⟨b5, [wd ((F5.of (v ^ 2 % pp)).l0), wd ((F5.of (v ^ 2 % pp)).l1), wd ((F5.of (v ^ 2 % pp)).l2), wd ((F5.of (v ^ 2 % pp)).l3), wd ((F5.of (v ^ 2 % pp)).l4)], 31⟩, ⟨b3, [.int .u64 0, .int .u64 0, .int .u64 0, .int .u64 0, .int .u64 0], 31⟩, ⟨b2, [.int .u64 0, .int .u64 0, .int .u64 0, .int .u64 0, .int .u64 0], 31⟩, ⟨b1, [wd x.l0, wd x.l1, wd x.l2, wd x.l3, wd x.l4], 31⟩]) [wd ((F5.of (v ^ 1606938044258990275541962092341162602522202993782792835301375 % pp)).l0), wd ((F5.of (v ^ 1606938044258990275541962092341162602522202993782792835301375 % pp)).l1), wd ((F5.of (v ^ 1606938044258990275541962092341162602522202993782792835301375 % pp)).l2), wd ((F5.of (v ^ 1606938044258990275541962092341162602522202993782792835301375 % pp)).l3), wd ((F5.of (v ^ 1606938044258990275541962092341162602522202993782792835301375 % pp)).l4)] 0 b31 0 [.int .u64 0, .int .u64 0, .int .u64 0, .int .u64 0, .int .u64 0] 31 rfl (by kernel_rfl) (by kernel_rfl) Tryd.sizeOf31 (by simp [Value.oneCell']) (by kernel_rfl) (by simp) (by kernel_rfl)) ?_
  refine D_nil ?_
  refine E_then ?_
  refine C_seq ?_
  refine C_drawnZ [b10] [.held, .held, .held, .held, .lb, .sb, .eff] (by kernel_rfl) (by kernel_rfl) ?_
  refine D_held (F5.v (F5.of (v ^ 1606938044258990275541962092341162602522202993782792835301375 % pp))) (by kernel_rfl) (ldN [wd ((F5.of (v ^ 1606938044258990275541962092341162602522202993782792835301375 % pp)).l0), wd ((F5.of (v ^ 1606938044258990275541962092341162602522202993782792835301375 % pp)).l1), wd ((F5.of (v ^ 1606938044258990275541962092341162602522202993782792835301375 % pp)).l2), wd ((F5.of (v ^ 1606938044258990275541962092341162602522202993782792835301375 % pp)).l3), wd ((F5.of (v ^ 1606938044258990275541962092341162602522202993782792835301375 % pp)).l4)] 0 b31 0 [wd ((F5.of (v ^ 1606938044258990275541962092341162602522202993782792835301375 % pp)).l0), wd ((F5.of (v ^ 1606938044258990275541962092341162602522202993782792835301375 % pp)).l1), wd ((F5.of (v ^ 1606938044258990275541962092341162602522202993782792835301375 % pp)).l2), wd ((F5.of (v ^ 1606938044258990275541962092341162602522202993782792835301375 % pp)).l3), wd ((F5.of (v ^ 1606938044258990275541962092341162602522202993782792835301375 % pp)).l4)] 31 rfl (by kernel_rfl) Tryd.isAgg31 Tryd.sizeOf31 (by kernel_rfl) (by kernel_rfl)) ?_
  have hC32 := c_fsquares (v ^ 1606938044258990275541962092341162602522202993782792835301375) 50 (by decide)
  rw [pw_sq v 1606938044258990275541962092341162602522202993782792835301375 50, show 1606938044258990275541962092341162602522202993782792835301375 * 2 ^ 50 = 1809251394333065553493296640760748560207343510400633813116523624223735808000 by decide] at hC32
  refine D_pure (v := F5.v (F5.of (v ^ 1809251394333065553493296640760748560207343510400633813116523624223735808000 % pp))) (by kernel_rfl) hC32 (fun _ => by kernel_rfl) ?_
  refine D_held (F5.v (F5.of (v ^ 1125899906842623 % pp))) (by kernel_rfl) (ldN [wd ((F5.of (v ^ 1125899906842623 % pp)).l0), wd ((F5.of (v ^ 1125899906842623 % pp)).l1), wd ((F5.of (v ^ 1125899906842623 % pp)).l2), wd ((F5.of (v ^ 1125899906842623 % pp)).l3), wd ((F5.of (v ^ 1125899906842623 % pp)).l4)] 2 b25 0 [wd ((F5.of (v ^ 1125899906842623 % pp)).l0), wd ((F5.of (v ^ 1125899906842623 % pp)).l1), wd ((F5.of (v ^ 1125899906842623 % pp)).l2), wd ((F5.of (v ^ 1125899906842623 % pp)).l3), wd ((F5.of (v ^ 1125899906842623 % pp)).l4)] 31 rfl (by kernel_rfl) Tryd.isAgg31 Tryd.sizeOf31 (by kernel_rfl) (by kernel_rfl)) ?_
  have hC33 := c_fmul (F5.of (v ^ 1809251394333065553493296640760748560207343510400633813116523624223735808000 % pp)) (F5.of (v ^ 1125899906842623 % pp)) (F5.of_ok _) (F5.of_ok _)
  simp only [of_val_mod] at hC33
  rw [pw_mul v 1809251394333065553493296640760748560207343510400633813116523624223735808000 1125899906842623, show (1809251394333065553493296640760748560207343510400633813116523624223735808000 + 1125899906842623 : Nat) = 1809251394333065553493296640760748560207343510400633813116524750123642650623 from rfl] at hC33
  refine D_pure (v := F5.v (F5.of (v ^ 1809251394333065553493296640760748560207343510400633813116524750123642650623 % pp))) (by kernel_rfl) (hC33) (fun _ => by kernel_rfl) ?_
  refine D_lbN [wd ((F5.of (v ^ 11 % pp)).l0), wd ((F5.of (v ^ 11 % pp)).l1), wd ((F5.of (v ^ 11 % pp)).l2), wd ((F5.of (v ^ 11 % pp)).l3), wd ((F5.of (v ^ 11 % pp)).l4)] 7 b10 0 [wd ((F5.of (v ^ 11 % pp)).l0), wd ((F5.of (v ^ 11 % pp)).l1), wd ((F5.of (v ^ 11 % pp)).l2), wd ((F5.of (v ^ 11 % pp)).l3), wd ((F5.of (v ^ 11 % pp)).l4)] 31 (by simp) (by kernel_rfl) rfl (by kernel_rfl) Tryd.isAgg31 Tryd.sizeOf31 (by kernel_rfl) (by kernel_rfl) ?_
  refine D_sb (by kernel_rfl) (keep_set (b := b2) (y := ⟨b2, [wd ((F5.of (v ^ 1809251394333065553493296640760748560207343510400633813116524750123642650623 % pp)).l0), wd ((F5.of (v ^ 1809251394333065553493296640760748560207343510400633813116524750123642650623 % pp)).l1), wd ((F5.of (v ^ 1809251394333065553493296640760748560207343510400633813116524750123642650623 % pp)).l2), wd ((F5.of (v ^ 1809251394333065553493296640760748560207343510400633813116524750123642650623 % pp)).l3), wd ((F5.of (v ^ 1809251394333065553493296640760748560207343510400633813116524750123642650623 % pp)).l4)], 31⟩) (cs := [.int .u64 0, .int .u64 0, .int .u64 0, .int .u64 0, .int .u64 0]) (ty := 31) 11 (by kernel_rfl) (fun hh => (id_lt (b := b2) hb10 3 (by kernel_rfl)) (List.mem_singleton.1 hh)) (by kernel_rfl)) (stN (L' := [⟨b31, [wd ((F5.of (v ^ 1606938044258990275541962092341162602522202993782792835301375 % pp)).l0), wd ((F5.of (v ^ 1606938044258990275541962092341162602522202993782792835301375 % pp)).l1), wd ((F5.of (v ^ 1606938044258990275541962092341162602522202993782792835301375 % pp)).l2), wd ((F5.of (v ^ 1606938044258990275541962092341162602522202993782792835301375 % pp)).l3), wd ((F5.of (v ^ 1606938044258990275541962092341162602522202993782792835301375 % pp)).l4)], 31⟩, ⟨b28, [wd ((F5.of (v ^ 1267650600228229401496703205375 % pp)).l0), wd ((F5.of (v ^ 1267650600228229401496703205375 % pp)).l1), wd ((F5.of (v ^ 1267650600228229401496703205375 % pp)).l2), wd ((F5.of (v ^ 1267650600228229401496703205375 % pp)).l3), wd ((F5.of (v ^ 1267650600228229401496703205375 % pp)).l4)], 31⟩, ⟨b25, [wd ((F5.of (v ^ 1125899906842623 % pp)).l0), wd ((F5.of (v ^ 1125899906842623 % pp)).l1), wd ((F5.of (v ^ 1125899906842623 % pp)).l2), wd ((F5.of (v ^ 1125899906842623 % pp)).l3), wd ((F5.of (v ^ 1125899906842623 % pp)).l4)], 31⟩, ⟨b22, [wd ((F5.of (v ^ 1099511627775 % pp)).l0), wd ((F5.of (v ^ 1099511627775 % pp)).l1), wd ((F5.of (v ^ 1099511627775 % pp)).l2), wd ((F5.of (v ^ 1099511627775 % pp)).l3), wd ((F5.of (v ^ 1099511627775 % pp)).l4)], 31⟩, ⟨b19, [wd ((F5.of (v ^ 1048575 % pp)).l0), wd ((F5.of (v ^ 1048575 % pp)).l1), wd ((F5.of (v ^ 1048575 % pp)).l2), wd ((F5.of (v ^ 1048575 % pp)).l3), wd ((F5.of (v ^ 1048575 % pp)).l4)], 31⟩, ⟨b16, [wd ((F5.of (v ^ 1023 % pp)).l0), wd ((F5.of (v ^ 1023 % pp)).l1), wd ((F5.of (v ^ 1023 % pp)).l2), wd ((F5.of (v ^ 1023 % pp)).l3), wd ((F5.of (v ^ 1023 % pp)).l4)], 31⟩, ⟨b13, [wd ((F5.of (v ^ 31 % pp)).l0), wd ((F5.of (v ^ 31 % pp)).l1), wd ((F5.of (v ^ 31 % pp)).l2), wd ((F5.of (v ^ 31 % pp)).l3), wd ((F5.of (v ^ 31 % pp)).l4)], 31⟩, ⟨b10, [wd ((F5.of (v ^ 11 % pp)).l0), wd ((F5.of (v ^ 11 % pp)).l1), wd ((F5.of (v ^ 11 % pp)).l2), wd ((F5.of (v ^ 11 % pp)).l3), wd ((F5.of (v ^ 11 % pp)).l4)], 31⟩, ⟨b8, [wd ((F5.of (v ^ 9 % pp)).l0), wd ((F5.of (v ^ 9 % pp)).l1), wd ((F5.of (v ^ 9 % pp)).l2), wd ((F5.of (v ^ 9 % pp)).l3), wd ((F5.of (v ^ 9 % pp)).l4)], 31⟩, ⟨b5, [wd ((F5.of (v ^ 2 % pp)).l0), wd ((F5.of (v ^ 2 % pp)).l1), wd ((F5.of (v ^ 2 % pp)).l2), wd ((F5.of (v ^ 2 % pp)).l3), wd ((F5.of (v ^ 2 % pp)).l4)], 31⟩, ⟨b3, [.int .u64 0, .int .u64 0, .int .u64 0, .int .u64 0, .int .u64 0], 31⟩, ⟨b2, [wd ((F5.of (v ^ 1809251394333065553493296640760748560207343510400633813116524750123642650623 % pp)).l0), wd ((F5.of (v ^ 1809251394333065553493296640760748560207343510400633813116524750123642650623 % pp)).l1), wd ((F5.of (v ^ 1809251394333065553493296640760748560207343510400633813116524750123642650623 % pp)).l2), wd ((F5.of (v ^ 1809251394333065553493296640760748560207343510400633813116524750123642650623 % pp)).l3), wd ((F5.of (v ^ 1809251394333065553493296640760748560207343510400633813116524750123642650623 % pp)).l4)], 31⟩, ⟨b1, [wd x.l0, wd x.l1, wd x.l2, wd x.l3, wd x.l4], 31⟩]) [wd ((F5.of (v ^ 1809251394333065553493296640760748560207343510400633813116524750123642650623 % pp)).l0), wd ((F5.of (v ^ 1809251394333065553493296640760748560207343510400633813116524750123642650623 % pp)).l1), wd ((F5.of (v ^ 1809251394333065553493296640760748560207343510400633813116524750123642650623 % pp)).l2), wd ((F5.of (v ^ 1809251394333065553493296640760748560207343510400633813116524750123642650623 % pp)).l3), wd ((F5.of (v ^ 1809251394333065553493296640760748560207343510400633813116524750123642650623 % pp)).l4)] 11 b2 0 [.int .u64 0, .int .u64 0, .int .u64 0, .int .u64 0, .int .u64 0] 31 rfl (by kernel_rfl) (by kernel_rfl) Tryd.sizeOf31 (by simp [Value.oneCell']) (by kernel_rfl) (by simp) (by kernel_rfl)) ?_
  refine D_do (by kernel_rfl) (stN (L' := [⟨b31, [wd ((F5.of (v ^ 1606938044258990275541962092341162602522202993782792835301375 % pp)).l0), wd ((F5.of (v ^ 1606938044258990275541962092341162602522202993782792835301375 % pp)).l1), wd ((F5.of (v ^ 1606938044258990275541962092341162602522202993782792835301375 % pp)).l2), wd ((F5.of (v ^ 1606938044258990275541962092341162602522202993782792835301375 % pp)).l3), wd ((F5.of (v ^ 1606938044258990275541962092341162602522202993782792835301375 % pp)).l4)], 31⟩, ⟨b28, [wd ((F5.of (v ^ 1267650600228229401496703205375 % pp)).l0), wd ((F5.of (v ^ 1267650600228229401496703205375 % pp)).l1), wd ((F5.of (v ^ 1267650600228229401496703205375 % pp)).l2), wd ((F5.of (v ^ 1267650600228229401496703205375 % pp)).l3), wd ((F5.of (v ^ 1267650600228229401496703205375 % pp)).l4)], 31⟩, ⟨b25, [wd ((F5.of (v ^ 1125899906842623 % pp)).l0), wd ((F5.of (v ^ 1125899906842623 % pp)).l1), wd ((F5.of (v ^ 1125899906842623 % pp)).l2), wd ((F5.of (v ^ 1125899906842623 % pp)).l3), wd ((F5.of (v ^ 1125899906842623 % pp)).l4)], 31⟩, ⟨b22, [wd ((F5.of (v ^ 1099511627775 % pp)).l0), wd ((F5.of (v ^ 1099511627775 % pp)).l1), wd ((F5.of (v ^ 1099511627775 % pp)).l2), wd ((F5.of (v ^ 1099511627775 % pp)).l3), wd ((F5.of (v ^ 1099511627775 % pp)).l4)], 31⟩, ⟨b19, [wd ((F5.of (v ^ 1048575 % pp)).l0), wd ((F5.of (v ^ 1048575 % pp)).l1), wd ((F5.of (v ^ 1048575 % pp)).l2), wd ((F5.of (v ^ 1048575 % pp)).l3), wd ((F5.of (v ^ 1048575 % pp)).l4)], 31⟩, ⟨b16, [wd ((F5.of (v ^ 1023 % pp)).l0), wd ((F5.of (v ^ 1023 % pp)).l1), wd ((F5.of (v ^ 1023 % pp)).l2), wd ((F5.of (v ^ 1023 % pp)).l3), wd ((F5.of (v ^ 1023 % pp)).l4)], 31⟩, ⟨b13, [wd ((F5.of (v ^ 31 % pp)).l0), wd ((F5.of (v ^ 31 % pp)).l1), wd ((F5.of (v ^ 31 % pp)).l2), wd ((F5.of (v ^ 31 % pp)).l3), wd ((F5.of (v ^ 31 % pp)).l4)], 31⟩, ⟨b10, [wd ((F5.of (v ^ 11 % pp)).l0), wd ((F5.of (v ^ 11 % pp)).l1), wd ((F5.of (v ^ 11 % pp)).l2), wd ((F5.of (v ^ 11 % pp)).l3), wd ((F5.of (v ^ 11 % pp)).l4)], 31⟩, ⟨b8, [wd ((F5.of (v ^ 9 % pp)).l0), wd ((F5.of (v ^ 9 % pp)).l1), wd ((F5.of (v ^ 9 % pp)).l2), wd ((F5.of (v ^ 9 % pp)).l3), wd ((F5.of (v ^ 9 % pp)).l4)], 31⟩, ⟨b5, [wd ((F5.of (v ^ 2 % pp)).l0), wd ((F5.of (v ^ 2 % pp)).l1), wd ((F5.of (v ^ 2 % pp)).l2), wd ((F5.of (v ^ 2 % pp)).l3), wd ((F5.of (v ^ 2 % pp)).l4)], 31⟩, ⟨b3, [wd ((F5.of (v ^ 11 % pp)).l0), wd ((F5.of (v ^ 11 % pp)).l1), wd ((F5.of (v ^ 11 % pp)).l2), wd ((F5.of (v ^ 11 % pp)).l3), wd ((F5.of (v ^ 11 % pp)).l4)], 31⟩, ⟨b2, [wd ((F5.of (v ^ 1809251394333065553493296640760748560207343510400633813116524750123642650623 % pp)).l0), wd ((F5.of (v ^ 1809251394333065553493296640760748560207343510400633813116524750123642650623 % pp)).l1), wd ((F5.of (v ^ 1809251394333065553493296640760748560207343510400633813116524750123642650623 % pp)).l2), wd ((F5.of (v ^ 1809251394333065553493296640760748560207343510400633813116524750123642650623 % pp)).l3), wd ((F5.of (v ^ 1809251394333065553493296640760748560207343510400633813116524750123642650623 % pp)).l4)], 31⟩, ⟨b1, [wd x.l0, wd x.l1, wd x.l2, wd x.l3, wd x.l4], 31⟩]) [wd ((F5.of (v ^ 11 % pp)).l0), wd ((F5.of (v ^ 11 % pp)).l1), wd ((F5.of (v ^ 11 % pp)).l2), wd ((F5.of (v ^ 11 % pp)).l3), wd ((F5.of (v ^ 11 % pp)).l4)] 10 b3 0 [.int .u64 0, .int .u64 0, .int .u64 0, .int .u64 0, .int .u64 0] 31 rfl (by kernel_rfl) (by kernel_rfl) Tryd.sizeOf31 (by simp [Value.oneCell']) (by kernel_rfl) (by simp) (by kernel_rfl)) ?_
  refine D_nil ?_
  refine E_then ?_
  refine C_ret ?_
  generalize F5.of (v ^ 1809251394333065553493296640760748560207343510400633813116524750123642650623 % pp) = T1
  exact pure_ret rfl (resM (rs := [.cell 2 31, .cell 3 31]) Tryd.results34 [F5.v T1, F5.v (F5.of (v ^ 11 % pp))] (by simp) (fun w hO => (.cell (by kernel_rfl) (resCell hO [wd T1.l0, wd T1.l1, wd T1.l2, wd T1.l3, wd T1.l4] 11 b2 31 Tryd.isAgg31 Tryd.sizeOf31 (by kernel_rfl)) (.cell (by kernel_rfl) (resCell hO [wd ((F5.of (v ^ 11 % pp)).l0), wd ((F5.of (v ^ 11 % pp)).l1), wd ((F5.of (v ^ 11 % pp)).l2), wd ((F5.of (v ^ 11 % pp)).l3), wd ((F5.of (v ^ 11 % pp)).l4)] 10 b3 31 Tryd.isAgg31 Tryd.sizeOf31 (by kernel_rfl)) .nil))))
theorem c_finvert (x : F5) (hx : x.ok) : Pure Tryd.prog 16 #[F5.v x] ((F5.of (x.val ^ (pp - 2) % pp)).v) := by
  obtain ⟨v, hv⟩ : ∃ v, x.val = v := ⟨_, rfl⟩
  rw [hv]
  refine pure_of Tryd.func16 rfl (fun w0 => ?_)
  refine C_seq ?_
  refine C_region ?_
  refine S_newv (fun nb0 => pt nb0 0) [wd x.l0, wd x.l1, wd x.l2, wd x.l3, wd x.l4] 31 (by kernel_rfl) (fun w _ => by kernel_rfl) ?_
  intro b1 hb1 Hb1
  refine S_newv (fun nb0 => pt nb0 0) [.int .u64 0, .int .u64 0, .int .u64 0, .int .u64 0, .int .u64 0] 31 (by kernel_rfl) (fun w _ => by kernel_rfl) ?_
  intro b2 hb2 Hb2
  refine S_nil ?_
  refine E_then ?_
  refine C_seq ?_
  refine C_region ?_
  refine S_val (F5.v x) (by kernel_rfl) (ldN [wd x.l0, wd x.l1, wd x.l2, wd x.l3, wd x.l4] 1 b1 0 [wd x.l0, wd x.l1, wd x.l2, wd x.l3, wd x.l4] 31 rfl (by kernel_rfl) Tryd.isAgg31 Tryd.sizeOf31 (by kernel_rfl) (by kernel_rfl)) ?_
  have hC3 := c_fones x hx
  rw [hv] at hC3
  refine S_pure (v := .tuple #[F5.v (F5.of (v ^ 1809251394333065553493296640760748560207343510400633813116524750123642650623 % pp)), F5.v (F5.of (v ^ 11 % pp))]) (by kernel_rfl) hC3 (fun _ => by kernel_rfl) ?_
  refine S_v (.tuple #[F5.v (F5.of (v ^ 1809251394333065553493296640760748560207343510400633813116524750123642650623 % pp)), F5.v (F5.of (v ^ 11 % pp))]) ?_
  refine S_v (F5.v (F5.of (v ^ 1809251394333065553493296640760748560207343510400633813116524750123642650623 % pp))) ?_
  refine S_v (F5.v (F5.of (v ^ 11 % pp))) ?_
  refine S_newv (fun nb0 => pt nb0 0) [.int .u64 0, .int .u64 0, .int .u64 0, .int .u64 0, .int .u64 0] 31 (by kernel_rfl) (fun w _ => by kernel_rfl) ?_
  intro b4 hb4 Hb4
  refine S_newv (fun nb0 => pt nb0 0) [.int .u64 0, .int .u64 0, .int .u64 0, .int .u64 0, .int .u64 0] 31 (by kernel_rfl) (fun w _ => by kernel_rfl) ?_
  intro b5 hb5 Hb5
  refine S_do (by kernel_rfl) (stN (L' := [⟨b5, [.int .u64 0, .int .u64 0, .int .u64 0, .int .u64 0, .int .u64 0], 31⟩, ⟨b4, [wd ((F5.of (v ^ 1809251394333065553493296640760748560207343510400633813116524750123642650623 % pp)).l0), wd ((F5.of (v ^ 1809251394333065553493296640760748560207343510400633813116524750123642650623 % pp)).l1), wd ((F5.of (v ^ 1809251394333065553493296640760748560207343510400633813116524750123642650623 % pp)).l2), wd ((F5.of (v ^ 1809251394333065553493296640760748560207343510400633813116524750123642650623 % pp)).l3), wd ((F5.of (v ^ 1809251394333065553493296640760748560207343510400633813116524750123642650623 % pp)).l4)], 31⟩, ⟨b2, [.int .u64 0, .int .u64 0, .int .u64 0, .int .u64 0, .int .u64 0], 31⟩, ⟨b1, [wd x.l0, wd x.l1, wd x.l2, wd x.l3, wd x.l4], 31⟩]) [wd ((F5.of (v ^ 1809251394333065553493296640760748560207343510400633813116524750123642650623 % pp)).l0), wd ((F5.of (v ^ 1809251394333065553493296640760748560207343510400633813116524750123642650623 % pp)).l1), wd ((F5.of (v ^ 1809251394333065553493296640760748560207343510400633813116524750123642650623 % pp)).l2), wd ((F5.of (v ^ 1809251394333065553493296640760748560207343510400633813116524750123642650623 % pp)).l3), wd ((F5.of (v ^ 1809251394333065553493296640760748560207343510400633813116524750123642650623 % pp)).l4)] 1 b4 0 [.int .u64 0, .int .u64 0, .int .u64 0, .int .u64 0, .int .u64 0] 31 rfl (by kernel_rfl) (by kernel_rfl) Tryd.sizeOf31 (by simp [Value.oneCell']) (by kernel_rfl) (by simp) (by kernel_rfl)) ?_
  refine S_do (by kernel_rfl) (stN (L' := [⟨b5, [wd ((F5.of (v ^ 11 % pp)).l0), wd ((F5.of (v ^ 11 % pp)).l1), wd ((F5.of (v ^ 11 % pp)).l2), wd ((F5.of (v ^ 11 % pp)).l3), wd ((F5.of (v ^ 11 % pp)).l4)], 31⟩, ⟨b4, [wd ((F5.of (v ^ 1809251394333065553493296640760748560207343510400633813116524750123642650623 % pp)).l0), wd ((F5.of (v ^ 1809251394333065553493296640760748560207343510400633813116524750123642650623 % pp)).l1), wd ((F5.of (v ^ 1809251394333065553493296640760748560207343510400633813116524750123642650623 % pp)).l2), wd ((F5.of (v ^ 1809251394333065553493296640760748560207343510400633813116524750123642650623 % pp)).l3), wd ((F5.of (v ^ 1809251394333065553493296640760748560207343510400633813116524750123642650623 % pp)).l4)], 31⟩, ⟨b2, [.int .u64 0, .int .u64 0, .int .u64 0, .int .u64 0, .int .u64 0], 31⟩, ⟨b1, [wd x.l0, wd x.l1, wd x.l2, wd x.l3, wd x.l4], 31⟩]) [wd ((F5.of (v ^ 11 % pp)).l0), wd ((F5.of (v ^ 11 % pp)).l1), wd ((F5.of (v ^ 11 % pp)).l2), wd ((F5.of (v ^ 11 % pp)).l3), wd ((F5.of (v ^ 11 % pp)).l4)] 0 b5 0 [.int .u64 0, .int .u64 0, .int .u64 0, .int .u64 0, .int .u64 0] 31 rfl (by kernel_rfl) (by kernel_rfl) Tryd.sizeOf31 (by simp [Value.oneCell']) (by kernel_rfl) (by simp) (by kernel_rfl)) ?_
  refine S_nil ?_
  refine E_then ?_
  refine C_seq ?_
  refine C_drawn [.held, .held, .held, .held, .eff] (by kernel_rfl) (by kernel_rfl) ?_
  refine D_held (F5.v (F5.of (v ^ 1809251394333065553493296640760748560207343510400633813116524750123642650623 % pp))) (by kernel_rfl) (ldN [wd ((F5.of (v ^ 1809251394333065553493296640760748560207343510400633813116524750123642650623 % pp)).l0), wd ((F5.of (v ^ 1809251394333065553493296640760748560207343510400633813116524750123642650623 % pp)).l1), wd ((F5.of (v ^ 1809251394333065553493296640760748560207343510400633813116524750123642650623 % pp)).l2), wd ((F5.of (v ^ 1809251394333065553493296640760748560207343510400633813116524750123642650623 % pp)).l3), wd ((F5.of (v ^ 1809251394333065553493296640760748560207343510400633813116524750123642650623 % pp)).l4)] 1 b4 0 [wd ((F5.of (v ^ 1809251394333065553493296640760748560207343510400633813116524750123642650623 % pp)).l0), wd ((F5.of (v ^ 1809251394333065553493296640760748560207343510400633813116524750123642650623 % pp)).l1), wd ((F5.of (v ^ 1809251394333065553493296640760748560207343510400633813116524750123642650623 % pp)).l2), wd ((F5.of (v ^ 1809251394333065553493296640760748560207343510400633813116524750123642650623 % pp)).l3), wd ((F5.of (v ^ 1809251394333065553493296640760748560207343510400633813116524750123642650623 % pp)).l4)] 31 rfl (by kernel_rfl) Tryd.isAgg31 Tryd.sizeOf31 (by kernel_rfl) (by kernel_rfl)) ?_
  have hC6 := c_fsquares (v ^ 1809251394333065553493296640760748560207343510400633813116524750123642650623) 5 (by decide)
  rw [pw_sq v 1809251394333065553493296640760748560207343510400633813116524750123642650623 5, show 1809251394333065553493296640760748560207343510400633813116524750123642650623 * 2 ^ 5 = 57896044618658097711785492504343953926634992332820282019728792003956564819936 by decide] at hC6
  refine D_pure (v := F5.v (F5.of (v ^ 57896044618658097711785492504343953926634992332820282019728792003956564819936 % pp))) (by kernel_rfl) hC6 (fun _ => by kernel_rfl) ?_
  refine D_held (F5.v (F5.of (v ^ 11 % pp))) (by kernel_rfl) (ldN [wd ((F5.of (v ^ 11 % pp)).l0), wd ((F5.of (v ^ 11 % pp)).l1), wd ((F5.of (v ^ 11 % pp)).l2), wd ((F5.of (v ^ 11 % pp)).l3), wd ((F5.of (v ^ 11 % pp)).l4)] 0 b5 0 [wd ((F5.of (v ^ 11 % pp)).l0), wd ((F5.of (v ^ 11 % pp)).l1), wd ((F5.of (v ^ 11 % pp)).l2), wd ((F5.of (v ^ 11 % pp)).l3), wd ((F5.of (v ^ 11 % pp)).l4)] 31 rfl (by kernel_rfl) Tryd.isAgg31 Tryd.sizeOf31 (by kernel_rfl) (by kernel_rfl)) ?_
  have hC7 := c_fmul (F5.of (v ^ 57896044618658097711785492504343953926634992332820282019728792003956564819936 % pp)) (F5.of (v ^ 11 % pp)) (F5.of_ok _) (F5.of_ok _)
  simp only [of_val_mod] at hC7
  rw [pw_mul v 57896044618658097711785492504343953926634992332820282019728792003956564819936 11, show (57896044618658097711785492504343953926634992332820282019728792003956564819936 + 11 : Nat) = 57896044618658097711785492504343953926634992332820282019728792003956564819947 from rfl] at hC7
  refine D_pure (v := F5.v (F5.of (v ^ 57896044618658097711785492504343953926634992332820282019728792003956564819947 % pp))) (by kernel_rfl) (hC7) (fun _ => by kernel_rfl) ?_
  refine D_do (by kernel_rfl) (stN (L' := [⟨b5, [wd ((F5.of (v ^ 11 % pp)).l0), wd ((F5.of (v ^ 11 % pp)).l1), wd ((F5.of (v ^ 11 % pp)).l2), wd ((F5.of (v ^ 11 % pp)).l3), wd ((F5.of (v ^ 11 % pp)).l4)], 31⟩, ⟨b4, [wd ((F5.of (v ^ 1809251394333065553493296640760748560207343510400633813116524750123642650623 % pp)).l0), wd ((F5.of (v ^ 1809251394333065553493296640760748560207343510400633813116524750123642650623 % pp)).l1), wd ((F5.of (v ^ 1809251394333065553493296640760748560207343510400633813116524750123642650623 % pp)).l2), wd ((F5.of (v ^ 1809251394333065553493296640760748560207343510400633813116524750123642650623 % pp)).l3), wd ((F5.of (v ^ 1809251394333065553493296640760748560207343510400633813116524750123642650623 % pp)).l4)], 31⟩, ⟨b2, [wd ((F5.of (v ^ 57896044618658097711785492504343953926634992332820282019728792003956564819947 % pp)).l0), wd ((F5.of (v ^ 57896044618658097711785492504343953926634992332820282019728792003956564819947 % pp)).l1), wd ((F5.of (v ^ 57896044618658097711785492504343953926634992332820282019728792003956564819947 % pp)).l2), wd ((F5.of (v ^ 57896044618658097711785492504343953926634992332820282019728792003956564819947 % pp)).l3), wd ((F5.of (v ^ 57896044618658097711785492504343953926634992332820282019728792003956564819947 % pp)).l4)], 31⟩, ⟨b1, [wd x.l0, wd x.l1, wd x.l2, wd x.l3, wd x.l4], 31⟩]) [wd ((F5.of (v ^ 57896044618658097711785492504343953926634992332820282019728792003956564819947 % pp)).l0), wd ((F5.of (v ^ 57896044618658097711785492504343953926634992332820282019728792003956564819947 % pp)).l1), wd ((F5.of (v ^ 57896044618658097711785492504343953926634992332820282019728792003956564819947 % pp)).l2), wd ((F5.of (v ^ 57896044618658097711785492504343953926634992332820282019728792003956564819947 % pp)).l3), wd ((F5.of (v ^ 57896044618658097711785492504343953926634992332820282019728792003956564819947 % pp)).l4)] 2 b2 0 [.int .u64 0, .int .u64 0, .int .u64 0, .int .u64 0, .int .u64 0] 31 rfl (by kernel_rfl) (by kernel_rfl) Tryd.sizeOf31 (by simp [Value.oneCell']) (by kernel_rfl) (by simp) (by kernel_rfl)) ?_
  refine D_nil ?_
  refine E_then ?_
  refine C_ret ?_
  rw [show pp - 2 = 57896044618658097711785492504343953926634992332820282019728792003956564819947 from rfl]
  generalize F5.of (v ^ 57896044618658097711785492504343953926634992332820282019728792003956564819947 % pp) = T1
  exact pure_ret rfl (resC Tryd.results16 [wd T1.l0, wd T1.l1, wd T1.l2, wd T1.l3, wd T1.l4] 2 b2 31 (by kernel_rfl) Tryd.isAgg31 Tryd.sizeOf31 (by kernel_rfl))
theorem c_fneg (x : F5) (hx : x.ok) : Pure Tryd.prog 20 #[F5.v x] ((F5.of (fsb 0 x.val)).v) := by
  refine pure_of Tryd.func20 rfl (fun w0 => ?_)
  refine C_seq ?_
  refine C_region ?_
  refine S_newv (fun nb0 => pt nb0 0) [wd x.l0, wd x.l1, wd x.l2, wd x.l3, wd x.l4] 31 (by kernel_rfl) (fun w _ => by kernel_rfl) ?_
  intro b1 hb1 Hb1
  refine S_newv (fun nb0 => pt nb0 0) [.int .u64 0, .int .u64 0, .int .u64 0, .int .u64 0, .int .u64 0] 31 (by kernel_rfl) (fun w _ => by kernel_rfl) ?_
  intro b2 hb2 Hb2
  refine S_nil ?_
  refine E_then ?_
  refine C_seq ?_
  refine C_region ?_
  refine S_v (.agg #[.int .u64 0, .int .u64 0, .int .u64 0, .int .u64 0, .int .u64 0]) ?_
  refine S_val (F5.v x) (by kernel_rfl) (ldN [wd x.l0, wd x.l1, wd x.l2, wd x.l3, wd x.l4] 1 b1 0 [wd x.l0, wd x.l1, wd x.l2, wd x.l3, wd x.l4] 31 rfl (by kernel_rfl) Tryd.isAgg31 Tryd.sizeOf31 (by kernel_rfl) (by kernel_rfl)) ?_
  refine S_pure (v := F5.v (F5.of (fsb (F5.of 0).val x.val))) (by kernel_rfl) (c_fsub (F5.of 0) x (F5.of_ok 0) hx) (fun _ => by kernel_rfl) ?_
  refine S_do (by kernel_rfl) (stN (L' := [⟨b2, [wd ((F5.of (fsb (F5.of 0).val x.val)).l0), wd ((F5.of (fsb (F5.of 0).val x.val)).l1), wd ((F5.of (fsb (F5.of 0).val x.val)).l2), wd ((F5.of (fsb (F5.of 0).val x.val)).l3), wd ((F5.of (fsb (F5.of 0).val x.val)).l4)], 31⟩, ⟨b1, [wd x.l0, wd x.l1, wd x.l2, wd x.l3, wd x.l4], 31⟩]) [wd ((F5.of (fsb (F5.of 0).val x.val)).l0), wd ((F5.of (fsb (F5.of 0).val x.val)).l1), wd ((F5.of (fsb (F5.of 0).val x.val)).l2), wd ((F5.of (fsb (F5.of 0).val x.val)).l3), wd ((F5.of (fsb (F5.of 0).val x.val)).l4)] 0 b2 0 [.int .u64 0, .int .u64 0, .int .u64 0, .int .u64 0, .int .u64 0] 31 rfl (by kernel_rfl) (by kernel_rfl) Tryd.sizeOf31 (by simp [Value.oneCell']) (by kernel_rfl) (by simp) (by kernel_rfl)) ?_
  refine S_nil ?_
  refine E_then ?_
  refine C_ret ?_
  rw [show fsb 0 x.val = fsb (F5.of 0).val x.val from rfl]
  exact pure_ret rfl (resC Tryd.results20 [wd ((F5.of (fsb (F5.of 0).val x.val)).l0), wd ((F5.of (fsb (F5.of 0).val x.val)).l1), wd ((F5.of (fsb (F5.of 0).val x.val)).l2), wd ((F5.of (fsb (F5.of 0).val x.val)).l3), wd ((F5.of (fsb (F5.of 0).val x.val)).l4)] 0 b2 31 (by kernel_rfl) Tryd.isAgg31 Tryd.sizeOf31 (by kernel_rfl))
theorem c_fone (x : F5) : Pure Tryd.prog 75 #[F5.v x] (.agg #[.int .u64 1, .int .u64 0, .int .u64 0, .int .u64 0, .int .u64 0]) := by
  refine pure_of Tryd.func75 rfl (fun w0 => ?_)
  refine C_seq ?_
  refine C_region ?_
  refine S_newv (fun nb0 => pt nb0 0) [wd x.l0, wd x.l1, wd x.l2, wd x.l3, wd x.l4] 31 (by kernel_rfl) (fun w _ => by kernel_rfl) ?_
  intro b1 hb1 Hb1
  refine S_newv (fun nb0 => pt nb0 0) [.int .u64 0, .int .u64 0, .int .u64 0, .int .u64 0, .int .u64 0] 31 (by kernel_rfl) (fun w _ => by kernel_rfl) ?_
  intro b2 hb2 Hb2
  refine S_nil ?_
  refine E_then ?_
  refine C_seq ?_
  refine C_region ?_
  refine S_v (.agg #[.int .u64 1, .int .u64 0, .int .u64 0, .int .u64 0, .int .u64 0]) ?_
  refine S_do (by kernel_rfl) (stN (L' := [⟨b2, [.int .u64 1, .int .u64 0, .int .u64 0, .int .u64 0, .int .u64 0], 31⟩, ⟨b1, [wd x.l0, wd x.l1, wd x.l2, wd x.l3, wd x.l4], 31⟩]) [.int .u64 1, .int .u64 0, .int .u64 0, .int .u64 0, .int .u64 0] 0 b2 0 [.int .u64 0, .int .u64 0, .int .u64 0, .int .u64 0, .int .u64 0] 31 rfl (by kernel_rfl) (by kernel_rfl) Tryd.sizeOf31 (by simp [Value.oneCell']) (by kernel_rfl) (by simp) (by kernel_rfl)) ?_
  refine S_nil ?_
  refine E_then ?_
  refine C_ret ?_
  exact pure_ret rfl (resC Tryd.results75 [.int .u64 1, .int .u64 0, .int .u64 0, .int .u64 0, .int .u64 0] 0 b2 31 (by kernel_rfl) Tryd.isAgg31 Tryd.sizeOf31 (by kernel_rfl))
theorem c_fsame (x y : F5) (hx : x.ok) (hy : y.ok) : Pure Tryd.prog 15 #[F5.v x, F5.v y] (.bool (decide (x.val % pp = y.val % pp))) := by
  refine pure_of Tryd.func15 rfl (fun w0 => ?_)
  refine C_seq ?_
  refine C_region ?_
  refine S_newv (fun nb0 => pt nb0 0) [wd x.l0, wd x.l1, wd x.l2, wd x.l3, wd x.l4] 31 (by kernel_rfl) (fun w _ => by kernel_rfl) ?_
  intro b1 hb1 Hb1
  refine S_newv (fun nb0 => pt nb0 0) [wd y.l0, wd y.l1, wd y.l2, wd y.l3, wd y.l4] 31 (by kernel_rfl) (fun w _ => by kernel_rfl) ?_
  intro b2 hb2 Hb2
  refine S_v (.bool false) ?_
  refine S_nil ?_
  refine E_then ?_
  refine C_seq ?_
  refine C_drawn [.held, .held, .held, .held, .pure, .pure] (by kernel_rfl) (by kernel_rfl) ?_
  refine D_held (F5.v x) (by kernel_rfl) (ldN [wd x.l0, wd x.l1, wd x.l2, wd x.l3, wd x.l4] 1 b1 0 [wd x.l0, wd x.l1, wd x.l2, wd x.l3, wd x.l4] 31 rfl (by kernel_rfl) Tryd.isAgg31 Tryd.sizeOf31 (by kernel_rfl) (by kernel_rfl)) ?_
  refine D_pure (v := F5.v (F5.of (x.val % pp))) (by kernel_rfl) (c_fleast x hx) (fun _ => by kernel_rfl) ?_
  refine D_held (F5.v y) (by kernel_rfl) (ldN [wd y.l0, wd y.l1, wd y.l2, wd y.l3, wd y.l4] 0 b2 0 [wd y.l0, wd y.l1, wd y.l2, wd y.l3, wd y.l4] 31 rfl (by kernel_rfl) Tryd.isAgg31 Tryd.sizeOf31 (by kernel_rfl) (by kernel_rfl)) ?_
  refine D_pure (v := F5.v (F5.of (y.val % pp))) (by kernel_rfl) (c_fleast y hy) (fun _ => by kernel_rfl) ?_
  refine D_val (.bool (decide (x.val % pp = y.val % pp))) (by kernel_rfl) (fun w => fv (v := .bool (([(((F5.of (x.val % pp)).l0 : Nat) : Int), (((F5.of (x.val % pp)).l1 : Nat) : Int), (((F5.of (x.val % pp)).l2 : Nat) : Int), (((F5.of (x.val % pp)).l3 : Nat) : Int), (((F5.of (x.val % pp)).l4 : Nat) : Int)] : List Int) == [(((F5.of (y.val % pp)).l0 : Nat) : Int), (((F5.of (y.val % pp)).l1 : Nat) : Int), (((F5.of (y.val % pp)).l2 : Nat) : Int), (((F5.of (y.val % pp)).l3 : Nat) : Int), (((F5.of (y.val % pp)).l4 : Nat) : Int)])) (vbool (fe_eq x.val y.val)) ((eqlA (n := 5) (e := 29) (k := .u64) [(((F5.of (x.val % pp)).l0 : Nat) : Int), (((F5.of (x.val % pp)).l1 : Nat) : Int), (((F5.of (x.val % pp)).l2 : Nat) : Int), (((F5.of (x.val % pp)).l3 : Nat) : Int), (((F5.of (x.val % pp)).l4 : Nat) : Int)] [(((F5.of (y.val % pp)).l0 : Nat) : Int), (((F5.of (y.val % pp)).l1 : Nat) : Int), (((F5.of (y.val % pp)).l2 : Nat) : Int), (((F5.of (y.val % pp)).l3 : Nat) : Int), (((F5.of (y.val % pp)).l4 : Nat) : Int)] rfl (by kernel_rfl) (by kernel_rfl) (by kernel_rfl) Tryd.underlying31 Tryd.underlying29 Tryd.sizeOf29 rfl rfl) w)) ?_
  refine D_v (.bool (decide (x.val % pp = y.val % pp))) ?_
  refine D_nil ?_
  refine E_then ?_
  refine C_ret ?_
  exact pure_ret rfl (res1 Tryd.results15 (by kernel_rfl))
theorem c_fzero (x : F5) (hx : x.ok) : Pure Tryd.prog 17 #[F5.v x] (.bool (decide (x.val % pp = 0))) := by
  refine pure_of Tryd.func17 rfl (fun w0 => ?_)
  refine C_seq ?_
  refine C_region ?_
  refine S_newv (fun nb0 => pt nb0 0) [wd x.l0, wd x.l1, wd x.l2, wd x.l3, wd x.l4] 31 (by kernel_rfl) (fun w _ => by kernel_rfl) ?_
  intro b1 hb1 Hb1
  refine S_v (.bool false) ?_
  refine S_nil ?_
  refine E_then ?_
  refine C_seq ?_
  refine C_region ?_
  refine S_val (F5.v x) (by kernel_rfl) (ldN [wd x.l0, wd x.l1, wd x.l2, wd x.l3, wd x.l4] 0 b1 0 [wd x.l0, wd x.l1, wd x.l2, wd x.l3, wd x.l4] 31 rfl (by kernel_rfl) Tryd.isAgg31 Tryd.sizeOf31 (by kernel_rfl) (by kernel_rfl)) ?_
  refine S_pure (v := F5.v (F5.of (x.val % pp))) (by kernel_rfl) (c_fleast x hx) (fun _ => by kernel_rfl) ?_
  refine S_v (.agg #[.int .u64 0, .int .u64 0, .int .u64 0, .int .u64 0, .int .u64 0]) ?_
  refine S_val (.bool (decide (x.val % pp = 0))) (by kernel_rfl) (fun w _ => fv (v := .bool (([(((F5.of (x.val % pp)).l0 : Nat) : Int), (((F5.of (x.val % pp)).l1 : Nat) : Int), (((F5.of (x.val % pp)).l2 : Nat) : Int), (((F5.of (x.val % pp)).l3 : Nat) : Int), (((F5.of (x.val % pp)).l4 : Nat) : Int)] : List Int) == [0, 0, 0, 0, 0])) (vbool (fe_eq0 x.val)) ((eqlA (n := 5) (e := 29) (k := .u64) [(((F5.of (x.val % pp)).l0 : Nat) : Int), (((F5.of (x.val % pp)).l1 : Nat) : Int), (((F5.of (x.val % pp)).l2 : Nat) : Int), (((F5.of (x.val % pp)).l3 : Nat) : Int), (((F5.of (x.val % pp)).l4 : Nat) : Int)] [0, 0, 0, 0, 0] rfl (by kernel_rfl) (by kernel_rfl) (by kernel_rfl) Tryd.underlying31 Tryd.underlying29 Tryd.sizeOf29 rfl rfl) w)) ?_
  refine S_v (.bool (decide (x.val % pp = 0))) ?_
  refine S_nil ?_
  refine E_then ?_
  refine C_ret ?_
  exact pure_ret rfl (res1 Tryd.results17 (by kernel_rfl))
theorem c_fint (n : Nat) (hn : n < 18446744073709551616) : Pure Tryd.prog 19 #[wd n] ((F5.of (n % pp)).v) := by
  have hC : Pure Tryd.prog 33 #[.agg #[wd n, .int .u64 0, .int .u64 0, .int .u64 0, .int .u64 0]] (F5.of (n % pp)).v := c_fleast ⟨n, 0, 0, 0, 0⟩ ⟨hn, (by decide : 0 < 18446744073709551616), (by decide : 0 < 18446744073709551616), (by decide : 0 < 18446744073709551616), (by decide : 0 < 18446744073709551616)⟩
  refine pure_of Tryd.func19 rfl (fun w0 => ?_)
  refine C_seq ?_
  refine C_region ?_
  refine S_newv (fun nb0 => pt nb0 0) [.int .u64 0, .int .u64 0, .int .u64 0, .int .u64 0, .int .u64 0] 31 (by kernel_rfl) (fun w _ => by kernel_rfl) ?_
  intro b1 hb1 Hb1
  refine S_nil ?_
  refine E_then ?_
  refine C_seq ?_
  refine C_region ?_
  refine S_v (wd n) ?_
  refine S_v (.agg #[wd n, .int .u64 0, .int .u64 0, .int .u64 0, .int .u64 0]) ?_
  refine S_pure (v := F5.v (F5.of (n % pp))) (by kernel_rfl) hC (fun _ => by kernel_rfl) ?_
  refine S_do (by kernel_rfl) (stN (L' := [⟨b1, [wd ((F5.of (n % pp)).l0), wd ((F5.of (n % pp)).l1), wd ((F5.of (n % pp)).l2), wd ((F5.of (n % pp)).l3), wd ((F5.of (n % pp)).l4)], 31⟩]) [wd ((F5.of (n % pp)).l0), wd ((F5.of (n % pp)).l1), wd ((F5.of (n % pp)).l2), wd ((F5.of (n % pp)).l3), wd ((F5.of (n % pp)).l4)] 0 b1 0 [.int .u64 0, .int .u64 0, .int .u64 0, .int .u64 0, .int .u64 0] 31 rfl (by kernel_rfl) (by kernel_rfl) Tryd.sizeOf31 (by simp [Value.oneCell']) (by kernel_rfl) (by simp) (by kernel_rfl)) ?_
  refine S_nil ?_
  refine E_then ?_
  refine C_ret ?_
  exact pure_ret rfl (resC Tryd.results19 [wd ((F5.of (n % pp)).l0), wd ((F5.of (n % pp)).l1), wd ((F5.of (n % pp)).l2), wd ((F5.of (n % pp)).l3), wd ((F5.of (n % pp)).l4)] 0 b1 31 (by kernel_rfl) Tryd.isAgg31 Tryd.sizeOf31 (by kernel_rfl))
end Go.Vk
