/- What functions of the program do: walks, printed by a program of my own. -/
import Derived.Test.YtalnkpdahpjmmaaDoorFeP
import Derived.Test.YtalnkpdahpjmmaaDoorDSc
set_option linter.unusedVariables false
set_option linter.unusedSimpArgs false
namespace Go.Vk
open Go Go.RowKit Go.Proofs Go.Vk.Num
set_option linter.unusedVariables false
theorem c_light (x : F5) (hx : x.ok) : Pure Tryd.prog 58 #[F5.v x] ((lightF x).v) := by
  refine pure_of Tryd.func58 rfl (fun w0 => ?_)
  refine C_seq ?_
  refine C_region ?_
  refine S_newv (fun nb0 => pt nb0 0) [wd x.l0, wd x.l1, wd x.l2, wd x.l3, wd x.l4] 31 (by kernel_rfl) (fun w _ => by kernel_rfl) ?_
  intro b1 hb1 Hb1
  refine S_newv (fun nb0 => pt nb0 0) [.int .u64 0, .int .u64 0, .int .u64 0, .int .u64 0, .int .u64 0] 31 (by kernel_rfl) (fun w _ => by kernel_rfl) ?_
  intro b2 hb2 Hb2
  refine S_nil ?_
  refine E_then ?_
  refine C_seq ?_
  refine C_region ?_
  refine S_v (pt b1 0) ?_
  refine S_val (wd x.l0) (by kernel_rfl) (ld1 1 b1 0 [wd x.l0, wd x.l1, wd x.l2, wd x.l3, wd x.l4] 31 rfl (by kernel_rfl) Tryd.isAgg29 (by kernel_rfl) (by kernel_rfl)) ?_
  obtain ⟨x3, hx3⟩ : ∃ q, q = x.l0 / 2 ^ 51 := ⟨_, rfl⟩
  have lx3 : x3 < 18446744073709551616 := by rw [hx3]; exact Nat.lt_of_le_of_lt (Nat.div_le_self _ _) hx.l0
  refine S_val (wd x3) (by kernel_rfl) (fun _ _ => fv (v := .int .u64 (((x.l0 : Nat) : Int).fdiv (2 ^ 51))) ((vint (hx3 ▸ u_shr x.l0 51))) (by kernel_rfl)) ?_
  refine S_v (pt b1 1) ?_
  refine S_val (wd x.l1) (by kernel_rfl) (ld1 1 b1 1 [wd x.l0, wd x.l1, wd x.l2, wd x.l3, wd x.l4] 31 rfl (by kernel_rfl) Tryd.isAgg29 (by kernel_rfl) (by kernel_rfl)) ?_
  obtain ⟨x4, hx4⟩ : ∃ q, q = x.l1 / 2 ^ 51 := ⟨_, rfl⟩
  have lx4 : x4 < 18446744073709551616 := by rw [hx4]; exact Nat.lt_of_le_of_lt (Nat.div_le_self _ _) hx.l1
  refine S_val (wd x4) (by kernel_rfl) (fun _ _ => fv (v := .int .u64 (((x.l1 : Nat) : Int).fdiv (2 ^ 51))) ((vint (hx4 ▸ u_shr x.l1 51))) (by kernel_rfl)) ?_
  refine S_v (pt b1 2) ?_
  refine S_val (wd x.l2) (by kernel_rfl) (ld1 1 b1 2 [wd x.l0, wd x.l1, wd x.l2, wd x.l3, wd x.l4] 31 rfl (by kernel_rfl) Tryd.isAgg29 (by kernel_rfl) (by kernel_rfl)) ?_
  obtain ⟨x5, hx5⟩ : ∃ q, q = x.l2 / 2 ^ 51 := ⟨_, rfl⟩
  have lx5 : x5 < 18446744073709551616 := by rw [hx5]; exact Nat.lt_of_le_of_lt (Nat.div_le_self _ _) hx.l2
  refine S_val (wd x5) (by kernel_rfl) (fun _ _ => fv (v := .int .u64 (((x.l2 : Nat) : Int).fdiv (2 ^ 51))) ((vint (hx5 ▸ u_shr x.l2 51))) (by kernel_rfl)) ?_
  refine S_v (pt b1 3) ?_
  refine S_val (wd x.l3) (by kernel_rfl) (ld1 1 b1 3 [wd x.l0, wd x.l1, wd x.l2, wd x.l3, wd x.l4] 31 rfl (by kernel_rfl) Tryd.isAgg29 (by kernel_rfl) (by kernel_rfl)) ?_
  obtain ⟨x6, hx6⟩ : ∃ q, q = x.l3 / 2 ^ 51 := ⟨_, rfl⟩
  have lx6 : x6 < 18446744073709551616 := by rw [hx6]; exact Nat.lt_of_le_of_lt (Nat.div_le_self _ _) hx.l3
  refine S_val (wd x6) (by kernel_rfl) (fun _ _ => fv (v := .int .u64 (((x.l3 : Nat) : Int).fdiv (2 ^ 51))) ((vint (hx6 ▸ u_shr x.l3 51))) (by kernel_rfl)) ?_
  refine S_v (pt b1 4) ?_
  refine S_val (wd x.l4) (by kernel_rfl) (ld1 1 b1 4 [wd x.l0, wd x.l1, wd x.l2, wd x.l3, wd x.l4] 31 rfl (by kernel_rfl) Tryd.isAgg29 (by kernel_rfl) (by kernel_rfl)) ?_
  obtain ⟨x7, hx7⟩ : ∃ q, q = x.l4 / 2 ^ 51 := ⟨_, rfl⟩
  have lx7 : x7 < 18446744073709551616 := by rw [hx7]; exact Nat.lt_of_le_of_lt (Nat.div_le_self _ _) hx.l4
  refine S_val (wd x7) (by kernel_rfl) (fun _ _ => fv (v := .int .u64 (((x.l4 : Nat) : Int).fdiv (2 ^ 51))) ((vint (hx7 ▸ u_shr x.l4 51))) (by kernel_rfl)) ?_
  refine S_v (.agg #[wd x3, wd x4, wd x5, wd x6, wd x7]) ?_
  refine S_newv (fun nb0 => pt nb0 0) [.int .u64 0, .int .u64 0, .int .u64 0, .int .u64 0, .int .u64 0] 30 (by kernel_rfl) (fun w _ => by kernel_rfl) ?_
  intro b8 hb8 Hb8
  refine S_do (by kernel_rfl) (stN (L' := [⟨b8, [wd x3, wd x4, wd x5, wd x6, wd x7], 30⟩, ⟨b2, [.int .u64 0, .int .u64 0, .int .u64 0, .int .u64 0, .int .u64 0], 31⟩, ⟨b1, [wd x.l0, wd x.l1, wd x.l2, wd x.l3, wd x.l4], 31⟩]) [wd x3, wd x4, wd x5, wd x6, wd x7] 0 b8 0 [.int .u64 0, .int .u64 0, .int .u64 0, .int .u64 0, .int .u64 0] 30 rfl (by kernel_rfl) (by kernel_rfl) Tryd.sizeOf30 (by simp [Value.oneCell']) (by kernel_rfl) (by simp) (by kernel_rfl)) ?_
  refine S_nil ?_
  refine E_then ?_
  refine C_seq ?_
  refine C_region ?_
  refine S_v (pt b1 0) ?_
  refine S_val (wd x.l0) (by kernel_rfl) (ld1 2 b1 0 [wd x.l0, wd x.l1, wd x.l2, wd x.l3, wd x.l4] 31 rfl (by kernel_rfl) Tryd.isAgg29 (by kernel_rfl) (by kernel_rfl)) ?_
  obtain ⟨x9, hx9, lx9, mx9⟩ : ∃ q, q = x.l0 % 2 ^ 51 ∧ q < 18446744073709551616 ∧ q < 2 ^ 51 := ⟨_, rfl, by omega, Nat.mod_lt _ (by decide)⟩
  refine S_val (wd x9) (by kernel_rfl) (fun _ _ => fv (v := .int .u64 (IntKind.u64.wrap (((BitVec.ofInt IntKind.u64.bits ((x.l0 : Nat) : Int)) &&& (BitVec.ofInt IntKind.u64.bits 2251799813685247)).toNat : Int))) ((vint (hx9 ▸ u_and_mask x.l0 51 hx.l0 (by decide)))) (by kernel_rfl)) ?_
  refine S_v (pt b8 4) ?_
  refine S_val (wd x7) (by kernel_rfl) (ld1 0 b8 4 [wd x3, wd x4, wd x5, wd x6, wd x7] 30 rfl (by kernel_rfl) Tryd.isAgg29 (by kernel_rfl) (by kernel_rfl)) ?_
  obtain ⟨x10, hx10, lx10⟩ : ∃ q, q = (19 * x7) % 18446744073709551616 ∧ q < 18446744073709551616 := ⟨_, rfl, Nat.mod_lt _ (by decide)⟩
  refine S_val (wd x10) (by kernel_rfl) (fun _ _ => fv (v := .int .u64 (IntKind.u64.wrap (19 * ((x7 : Nat) : Int)))) ((vint (hx10 ▸ u_mul 19 x7))) (by kernel_rfl)) ?_
  obtain ⟨x11, hx11, lx11⟩ : ∃ q, q = (x9 + x10) % 18446744073709551616 ∧ q < 18446744073709551616 := ⟨_, rfl, Nat.mod_lt _ (by decide)⟩
  refine S_val (wd x11) (by kernel_rfl) (fun _ _ => fv (v := .int .u64 (IntKind.u64.wrap (((x9 : Nat) : Int) + ((x10 : Nat) : Int)))) ((vint (hx11 ▸ u_add x9 x10))) (by kernel_rfl)) ?_
  refine S_v (pt b1 1) ?_
  refine S_val (wd x.l1) (by kernel_rfl) (ld1 2 b1 1 [wd x.l0, wd x.l1, wd x.l2, wd x.l3, wd x.l4] 31 rfl (by kernel_rfl) Tryd.isAgg29 (by kernel_rfl) (by kernel_rfl)) ?_
  obtain ⟨x12, hx12, lx12, mx12⟩ : ∃ q, q = x.l1 % 2 ^ 51 ∧ q < 18446744073709551616 ∧ q < 2 ^ 51 := ⟨_, rfl, by omega, Nat.mod_lt _ (by decide)⟩
  refine S_val (wd x12) (by kernel_rfl) (fun _ _ => fv (v := .int .u64 (IntKind.u64.wrap (((BitVec.ofInt IntKind.u64.bits ((x.l1 : Nat) : Int)) &&& (BitVec.ofInt IntKind.u64.bits 2251799813685247)).toNat : Int))) ((vint (hx12 ▸ u_and_mask x.l1 51 hx.l1 (by decide)))) (by kernel_rfl)) ?_
  refine S_v (pt b8 0) ?_
  refine S_val (wd x3) (by kernel_rfl) (ld1 0 b8 0 [wd x3, wd x4, wd x5, wd x6, wd x7] 30 rfl (by kernel_rfl) Tryd.isAgg29 (by kernel_rfl) (by kernel_rfl)) ?_
  obtain ⟨x13, hx13, lx13⟩ : ∃ q, q = (x12 + x3) % 18446744073709551616 ∧ q < 18446744073709551616 := ⟨_, rfl, Nat.mod_lt _ (by decide)⟩
  refine S_val (wd x13) (by kernel_rfl) (fun _ _ => fv (v := .int .u64 (IntKind.u64.wrap (((x12 : Nat) : Int) + ((x3 : Nat) : Int)))) ((vint (hx13 ▸ u_add x12 x3))) (by kernel_rfl)) ?_
  refine S_v (pt b1 2) ?_
  refine S_val (wd x.l2) (by kernel_rfl) (ld1 2 b1 2 [wd x.l0, wd x.l1, wd x.l2, wd x.l3, wd x.l4] 31 rfl (by kernel_rfl) Tryd.isAgg29 (by kernel_rfl) (by kernel_rfl)) ?_
  obtain ⟨x14, hx14, lx14, mx14⟩ : ∃ q, q = x.l2 % 2 ^ 51 ∧ q < 18446744073709551616 ∧ q < 2 ^ 51 := ⟨_, rfl, by omega, Nat.mod_lt _ (by decide)⟩
  refine S_val (wd x14) (by kernel_rfl) (fun _ _ => fv (v := .int .u64 (IntKind.u64.wrap (((BitVec.ofInt IntKind.u64.bits ((x.l2 : Nat) : Int)) &&& (BitVec.ofInt IntKind.u64.bits 2251799813685247)).toNat : Int))) ((vint (hx14 ▸ u_and_mask x.l2 51 hx.l2 (by decide)))) (by kernel_rfl)) ?_
  refine S_v (pt b8 1) ?_
  refine S_val (wd x4) (by kernel_rfl) (ld1 0 b8 1 [wd x3, wd x4, wd x5, wd x6, wd x7] 30 rfl (by kernel_rfl) Tryd.isAgg29 (by kernel_rfl) (by kernel_rfl)) ?_
  obtain ⟨x15, hx15, lx15⟩ : ∃ q, q = (x14 + x4) % 18446744073709551616 ∧ q < 18446744073709551616 := ⟨_, rfl, Nat.mod_lt _ (by decide)⟩
  refine S_val (wd x15) (by kernel_rfl) (fun _ _ => fv (v := .int .u64 (IntKind.u64.wrap (((x14 : Nat) : Int) + ((x4 : Nat) : Int)))) ((vint (hx15 ▸ u_add x14 x4))) (by kernel_rfl)) ?_
  refine S_v (pt b1 3) ?_
  refine S_val (wd x.l3) (by kernel_rfl) (ld1 2 b1 3 [wd x.l0, wd x.l1, wd x.l2, wd x.l3, wd x.l4] 31 rfl (by kernel_rfl) Tryd.isAgg29 (by kernel_rfl) (by kernel_rfl)) ?_
  obtain ⟨x16, hx16, lx16, mx16⟩ : ∃ q, q = x.l3 % 2 ^ 51 ∧ q < 18446744073709551616 ∧ q < 2 ^ 51 := ⟨_, rfl, by omega, Nat.mod_lt _ (by decide)⟩
  refine S_val (wd x16) (by kernel_rfl) (fun _ _ => fv (v := .int .u64 (IntKind.u64.wrap (((BitVec.ofInt IntKind.u64.bits ((x.l3 : Nat) : Int)) &&& (BitVec.ofInt IntKind.u64.bits 2251799813685247)).toNat : Int))) ((vint (hx16 ▸ u_and_mask x.l3 51 hx.l3 (by decide)))) (by kernel_rfl)) ?_
  refine S_v (pt b8 2) ?_
  refine S_val (wd x5) (by kernel_rfl) (ld1 0 b8 2 [wd x3, wd x4, wd x5, wd x6, wd x7] 30 rfl (by kernel_rfl) Tryd.isAgg29 (by kernel_rfl) (by kernel_rfl)) ?_
  obtain ⟨x17, hx17, lx17⟩ : ∃ q, q = (x16 + x5) % 18446744073709551616 ∧ q < 18446744073709551616 := ⟨_, rfl, Nat.mod_lt _ (by decide)⟩
  refine S_val (wd x17) (by kernel_rfl) (fun _ _ => fv (v := .int .u64 (IntKind.u64.wrap (((x16 : Nat) : Int) + ((x5 : Nat) : Int)))) ((vint (hx17 ▸ u_add x16 x5))) (by kernel_rfl)) ?_
  refine S_v (pt b1 4) ?_
  refine S_val (wd x.l4) (by kernel_rfl) (ld1 2 b1 4 [wd x.l0, wd x.l1, wd x.l2, wd x.l3, wd x.l4] 31 rfl (by kernel_rfl) Tryd.isAgg29 (by kernel_rfl) (by kernel_rfl)) ?_
  obtain ⟨x18, hx18, lx18, mx18⟩ : ∃ q, q = x.l4 % 2 ^ 51 ∧ q < 18446744073709551616 ∧ q < 2 ^ 51 := ⟨_, rfl, by omega, Nat.mod_lt _ (by decide)⟩
  refine S_val (wd x18) (by kernel_rfl) (fun _ _ => fv (v := .int .u64 (IntKind.u64.wrap (((BitVec.ofInt IntKind.u64.bits ((x.l4 : Nat) : Int)) &&& (BitVec.ofInt IntKind.u64.bits 2251799813685247)).toNat : Int))) ((vint (hx18 ▸ u_and_mask x.l4 51 hx.l4 (by decide)))) (by kernel_rfl)) ?_
  refine S_v (pt b8 3) ?_
  refine S_val (wd x6) (by kernel_rfl) (ld1 0 b8 3 [wd x3, wd x4, wd x5, wd x6, wd x7] 30 rfl (by kernel_rfl) Tryd.isAgg29 (by kernel_rfl) (by kernel_rfl)) ?_
  obtain ⟨x19, hx19, lx19⟩ : ∃ q, q = (x18 + x6) % 18446744073709551616 ∧ q < 18446744073709551616 := ⟨_, rfl, Nat.mod_lt _ (by decide)⟩
  refine S_val (wd x19) (by kernel_rfl) (fun _ _ => fv (v := .int .u64 (IntKind.u64.wrap (((x18 : Nat) : Int) + ((x6 : Nat) : Int)))) ((vint (hx19 ▸ u_add x18 x6))) (by kernel_rfl)) ?_
  refine S_v (.agg #[wd x11, wd x13, wd x15, wd x17, wd x19]) ?_
  refine S_do (by kernel_rfl) (stN (L' := [⟨b8, [wd x3, wd x4, wd x5, wd x6, wd x7], 30⟩, ⟨b2, [wd x11, wd x13, wd x15, wd x17, wd x19], 31⟩, ⟨b1, [wd x.l0, wd x.l1, wd x.l2, wd x.l3, wd x.l4], 31⟩]) [wd x11, wd x13, wd x15, wd x17, wd x19] 1 b2 0 [.int .u64 0, .int .u64 0, .int .u64 0, .int .u64 0, .int .u64 0] 31 rfl (by kernel_rfl) (by kernel_rfl) Tryd.sizeOf31 (by simp [Value.oneCell']) (by kernel_rfl) (by simp) (by kernel_rfl)) ?_
  refine S_nil ?_
  refine E_then ?_
  refine C_ret ?_
  rw [show (lightF x).v = _ from F5.v_eq (by show _ = x11; have := hx.l0; have := hx.l1; have := hx.l2; have := hx.l3; have := hx.l4; unfold lightF; dsimp only; omega) (by show _ = x13; have := hx.l0; have := hx.l1; have := hx.l2; have := hx.l3; have := hx.l4; unfold lightF; dsimp only; omega) (by show _ = x15; have := hx.l0; have := hx.l1; have := hx.l2; have := hx.l3; have := hx.l4; unfold lightF; dsimp only; omega) (by show _ = x17; have := hx.l0; have := hx.l1; have := hx.l2; have := hx.l3; have := hx.l4; unfold lightF; dsimp only; omega) (by show _ = x19; have := hx.l0; have := hx.l1; have := hx.l2; have := hx.l3; have := hx.l4; unfold lightF; dsimp only; omega)]
  exact pure_ret rfl (resC Tryd.results58 [wd x11, wd x13, wd x15, wd x17, wd x19] 1 b2 31 (by kernel_rfl) Tryd.isAgg31 Tryd.sizeOf31 (by kernel_rfl))
theorem c_fleast (x : F5) (hx : x.ok) : Pure Tryd.prog 33 #[F5.v x] ((F5.of (x.val % pp)).v) := by
  refine pure_of Tryd.func33 rfl (fun w0 => ?_)
  refine C_seq ?_
  refine C_region ?_
  refine S_newv (fun nb0 => pt nb0 0) [wd x.l0, wd x.l1, wd x.l2, wd x.l3, wd x.l4] 31 (by kernel_rfl) (fun w _ => by kernel_rfl) ?_
  intro b1 hb1 Hb1
  refine S_newv (fun nb0 => pt nb0 0) [.int .u64 0, .int .u64 0, .int .u64 0, .int .u64 0, .int .u64 0] 31 (by kernel_rfl) (fun w _ => by kernel_rfl) ?_
  intro b2 hb2 Hb2
  refine S_nil ?_
  refine E_then ?_
  refine C_seq ?_
  refine C_region ?_
  refine S_val (F5.v x) (by kernel_rfl) (ldN [wd x.l0, wd x.l1, wd x.l2, wd x.l3, wd x.l4] 1 b1 0 [wd x.l0, wd x.l1, wd x.l2, wd x.l3, wd x.l4] 31 rfl (by kernel_rfl) Tryd.isAgg31 Tryd.sizeOf31 (by kernel_rfl) (by kernel_rfl)) ?_
  refine S_pure (v := F5.v (lightF x)) (by kernel_rfl) (c_light x hx) (fun _ => by kernel_rfl) ?_
  refine S_pure (v := F5.v (lightF (lightF x))) (by kernel_rfl) (c_light (lightF x) (light_ok hx)) (fun _ => by kernel_rfl) ?_
  refine S_pure (v := F5.v (lightF (lightF (lightF x)))) (by kernel_rfl) (c_light (lightF (lightF x)) (light_ok (light_ok hx))) (fun _ => by kernel_rfl) ?_
  refine S_do (by kernel_rfl) (stN (L' := [⟨b2, [.int .u64 0, .int .u64 0, .int .u64 0, .int .u64 0, .int .u64 0], 31⟩, ⟨b1, [wd ((lightF (lightF (lightF x))).l0), wd ((lightF (lightF (lightF x))).l1), wd ((lightF (lightF (lightF x))).l2), wd ((lightF (lightF (lightF x))).l3), wd ((lightF (lightF (lightF x))).l4)], 31⟩]) [wd ((lightF (lightF (lightF x))).l0), wd ((lightF (lightF (lightF x))).l1), wd ((lightF (lightF (lightF x))).l2), wd ((lightF (lightF (lightF x))).l3), wd ((lightF (lightF (lightF x))).l4)] 1 b1 0 [wd x.l0, wd x.l1, wd x.l2, wd x.l3, wd x.l4] 31 rfl (by kernel_rfl) (by kernel_rfl) Tryd.sizeOf31 (by simp [Value.oneCell']) (by kernel_rfl) (by simp) (by kernel_rfl)) ?_
  refine S_nil ?_
  obtain ⟨y, hy⟩ : ∃ y, y = lightF (lightF (lightF x)) := ⟨_, rfl⟩
  have hyo : y.ok := by rw [hy]; exact light_ok (light_ok (light_ok hx))
  have hyb := light1 (light_ok (light_ok hx))
  rw [← hy] at hyb
  obtain ⟨g0, g1, g2, g3, g4⟩ := hyb
  have hyv : y.val % pp = x.val % pp := by rw [hy, light_mod, light_mod, light_mod]
  rw [← hyv]
  rw [← hy]
  clear hy hyv
  refine E_forget (fun g => ⟨#[g 0, pt b1 0, pt b2 0, g 3, g 4, g 5, g 6, g 7, g 8, g 9, g 10, g 11, g 12, g 13, g 14, g 15, g 16, g 17, g 18, g 19, g 20, g 21, g 22, g 23, g 24, g 25, g 26, g 27, g 28, g 29, g 30, g 31, g 32, g 33, g 34, g 35, g 36, g 37, g 38, g 39, g 40, g 41, g 42, g 43, g 44, g 45, g 46, g 47, g 48, g 49, g 50, g 51, g 52, g 53, g 54, g 55], []⟩) (by kernel_rfl) ?_
  intro g
  refine E_then ?_
  refine C_seq ?_
  refine C_region ?_
  refine S_v (pt b1 0) ?_
  refine S_val (wd y.l0) (by kernel_rfl) (ld1 1 b1 0 [wd y.l0, wd y.l1, wd y.l2, wd y.l3, wd y.l4] 31 rfl (by kernel_rfl) Tryd.isAgg29 (by kernel_rfl) (by kernel_rfl)) ?_
  obtain ⟨x3, hx3, ux3⟩ : ∃ q, q = y.l0 + 19 ∧ q ≤ 2251799813840915 := ⟨_, rfl, Nat.add_le_add (Nat.le_of_lt g0) (Nat.le_refl 19)⟩
  refine S_val (wd x3) (by kernel_rfl) (fun _ _ => fv (v := .int .u64 (IntKind.u64.wrap (((y.l0 : Nat) : Int) + 19))) ((vint (hx3 ▸ u_add_lt y.l0 19 2251799813840915 (hx3 ▸ ux3) (by decide)))) (by kernel_rfl)) ?_
  obtain ⟨x4, hx4, ux4⟩ : ∃ q, q = x3 / 2 ^ 51 ∧ q ≤ 1 := ⟨_, rfl, Nat.le_trans (Nat.div_le_div_right ux3) (by decide)⟩
  refine S_val (wd x4) (by kernel_rfl) (fun _ _ => fv (v := .int .u64 (((x3 : Nat) : Int).fdiv (2 ^ 51))) ((vint (hx4 ▸ u_shr x3 51))) (by kernel_rfl)) ?_
  refine S_v (wd x4) ?_
  refine S_nil ?_
  refine E_then ?_
  refine C_seq ?_
  refine C_seq ?_
  refine C_region ?_
  refine S_v (.slice (some ⟨b1, 1, none⟩) 4 4) ?_
  refine S_v (.int .i64 4) ?_
  refine S_v (.int .i64 0) ?_
  refine S_nil ?_
  refine E_then ?_
  refine C_block ?_
  refine C_unroll 5 ?_
  refine R_succ ?_
  refine C_forget (fun g => ⟨#[g 0, pt b1 0, pt b2 0, wd x4, g 4, g 5, g 6, g 7, g 8, g 9, g 10, g 11, g 12, g 13, g 14, .slice (some ⟨b1, 1, none⟩) 4 4, .int .i64 4, .int .i64 0, g 18, g 19, g 20, g 21, g 22, g 23, g 24, g 25, g 26, g 27, g 28, g 29, g 30, g 31, g 32, g 33, g 34, g 35, g 36, g 37, g 38, g 39, g 40, g 41, g 42, g 43, g 44, g 45, g 46, g 47, g 48, g 49, g 50, g 51, g 52, g 53, g 54, g 55], []⟩) (by kernel_rfl) ?_
  intro g
  refine C_seq ?_
  refine C_region ?_
  refine S_v (.bool true) ?_
  refine S_nil ?_
  refine E_then ?_
  refine C_seq ?_
  refine C_true (by kernel_rfl) ?_
  refine C_skip ?_
  refine E_then ?_
  refine C_seq ?_
  refine C_block ?_
  refine C_seq ?_
  refine C_region ?_
  refine S_v (pt b1 1) ?_
  refine S_val (wd y.l1) (by kernel_rfl) (ld1 1 b1 1 [wd y.l0, wd y.l1, wd y.l2, wd y.l3, wd y.l4] 31 rfl (by kernel_rfl) Tryd.isAgg29 (by kernel_rfl) (by kernel_rfl)) ?_
  refine S_v (wd y.l1) ?_
  refine S_nil ?_
  refine E_then ?_
  refine C_region ?_
  refine S_v (wd y.l1) ?_
  refine S_v (wd x4) ?_
  obtain ⟨x5, hx5, ux5⟩ : ∃ q, q = y.l1 + x4 ∧ q ≤ 2251799813693441 := ⟨_, rfl, Nat.add_le_add (Nat.le_of_lt g1) ux4⟩
  refine S_val (wd x5) (by kernel_rfl) (fun _ _ => fv (v := .int .u64 (IntKind.u64.wrap (((y.l1 : Nat) : Int) + ((x4 : Nat) : Int)))) ((vint (hx5 ▸ u_add_lt y.l1 x4 2251799813693441 (hx5 ▸ ux5) (by decide)))) (by kernel_rfl)) ?_
  obtain ⟨x6, hx6, ux6⟩ : ∃ q, q = x5 / 2 ^ 51 ∧ q ≤ 1 := ⟨_, rfl, Nat.le_trans (Nat.div_le_div_right ux5) (by decide)⟩
  refine S_val (wd x6) (by kernel_rfl) (fun _ _ => fv (v := .int .u64 (((x5 : Nat) : Int).fdiv (2 ^ 51))) ((vint (hx6 ▸ u_shr x5 51))) (by kernel_rfl)) ?_
  refine S_v (wd x6) ?_
  refine S_nil ?_
  refine E_inblock ?_
  refine E_then ?_
  refine C_region ?_
  refine S_v (.int .i64 1) ?_
  refine S_v (.int .i64 1) ?_
  refine S_nil ?_
  refine E_rounds ?_
  refine R_succ ?_
  refine C_forget (fun g => ⟨#[g 0, pt b1 0, pt b2 0, wd x6, g 4, g 5, g 6, g 7, g 8, g 9, g 10, g 11, g 12, g 13, g 14, .slice (some ⟨b1, 1, none⟩) 4 4, .int .i64 4, .int .i64 1, g 18, g 19, g 20, g 21, g 22, g 23, g 24, g 25, g 26, g 27, g 28, g 29, g 30, g 31, g 32, g 33, g 34, g 35, g 36, g 37, g 38, g 39, g 40, g 41, g 42, g 43, g 44, g 45, g 46, g 47, g 48, g 49, g 50, g 51, g 52, g 53, g 54, g 55], []⟩) (by kernel_rfl) ?_
  intro g
  refine C_seq ?_
  refine C_region ?_
  refine S_v (.bool true) ?_
  refine S_nil ?_
  refine E_then ?_
  refine C_seq ?_
  refine C_true (by kernel_rfl) ?_
  refine C_skip ?_
  refine E_then ?_
  refine C_seq ?_
  refine C_block ?_
  refine C_seq ?_
  refine C_region ?_
  refine S_v (pt b1 2) ?_
  refine S_val (wd y.l2) (by kernel_rfl) (ld1 1 b1 2 [wd y.l0, wd y.l1, wd y.l2, wd y.l3, wd y.l4] 31 rfl (by kernel_rfl) Tryd.isAgg29 (by kernel_rfl) (by kernel_rfl)) ?_
  refine S_v (wd y.l2) ?_
  refine S_nil ?_
  refine E_then ?_
  refine C_region ?_
  refine S_v (wd y.l2) ?_
  refine S_v (wd x6) ?_
  obtain ⟨x7, hx7, ux7⟩ : ∃ q, q = y.l2 + x6 ∧ q ≤ 2251799813693441 := ⟨_, rfl, Nat.add_le_add (Nat.le_of_lt g2) ux6⟩
  refine S_val (wd x7) (by kernel_rfl) (fun _ _ => fv (v := .int .u64 (IntKind.u64.wrap (((y.l2 : Nat) : Int) + ((x6 : Nat) : Int)))) ((vint (hx7 ▸ u_add_lt y.l2 x6 2251799813693441 (hx7 ▸ ux7) (by decide)))) (by kernel_rfl)) ?_
  obtain ⟨x8, hx8, ux8⟩ : ∃ q, q = x7 / 2 ^ 51 ∧ q ≤ 1 := ⟨_, rfl, Nat.le_trans (Nat.div_le_div_right ux7) (by decide)⟩
  refine S_val (wd x8) (by kernel_rfl) (fun _ _ => fv (v := .int .u64 (((x7 : Nat) : Int).fdiv (2 ^ 51))) ((vint (hx8 ▸ u_shr x7 51))) (by kernel_rfl)) ?_
  refine S_v (wd x8) ?_
  refine S_nil ?_
  refine E_inblock ?_
  refine E_then ?_
  refine C_region ?_
  refine S_v (.int .i64 2) ?_
  refine S_v (.int .i64 2) ?_
  refine S_nil ?_
  refine E_rounds ?_
  refine R_succ ?_
  refine C_forget (fun g => ⟨#[g 0, pt b1 0, pt b2 0, wd x8, g 4, g 5, g 6, g 7, g 8, g 9, g 10, g 11, g 12, g 13, g 14, .slice (some ⟨b1, 1, none⟩) 4 4, .int .i64 4, .int .i64 2, g 18, g 19, g 20, g 21, g 22, g 23, g 24, g 25, g 26, g 27, g 28, g 29, g 30, g 31, g 32, g 33, g 34, g 35, g 36, g 37, g 38, g 39, g 40, g 41, g 42, g 43, g 44, g 45, g 46, g 47, g 48, g 49, g 50, g 51, g 52, g 53, g 54, g 55], []⟩) (by kernel_rfl) ?_
  intro g
  refine C_seq ?_
  refine C_region ?_
  refine S_v (.bool true) ?_
  refine S_nil ?_
  refine E_then ?_
  refine C_seq ?_
  refine C_true (by kernel_rfl) ?_
  refine C_skip ?_
  refine E_then ?_
  refine C_seq ?_
  refine C_block ?_
  refine C_seq ?_
  refine C_region ?_
  refine S_v (pt b1 3) ?_
  refine S_val (wd y.l3) (by kernel_rfl) (ld1 1 b1 3 [wd y.l0, wd y.l1, wd y.l2, wd y.l3, wd y.l4] 31 rfl (by kernel_rfl) Tryd.isAgg29 (by kernel_rfl) (by kernel_rfl)) ?_
  refine S_v (wd y.l3) ?_
  refine S_nil ?_
  refine E_then ?_
  refine C_region ?_
  refine S_v (wd y.l3) ?_
  refine S_v (wd x8) ?_
  obtain ⟨x9, hx9, ux9⟩ : ∃ q, q = y.l3 + x8 ∧ q ≤ 2251799813693441 := ⟨_, rfl, Nat.add_le_add (Nat.le_of_lt g3) ux8⟩
  refine S_val (wd x9) (by kernel_rfl) (fun _ _ => fv (v := .int .u64 (IntKind.u64.wrap (((y.l3 : Nat) : Int) + ((x8 : Nat) : Int)))) ((vint (hx9 ▸ u_add_lt y.l3 x8 2251799813693441 (hx9 ▸ ux9) (by decide)))) (by kernel_rfl)) ?_
  obtain ⟨x10, hx10, ux10⟩ : ∃ q, q = x9 / 2 ^ 51 ∧ q ≤ 1 := ⟨_, rfl, Nat.le_trans (Nat.div_le_div_right ux9) (by decide)⟩
  refine S_val (wd x10) (by kernel_rfl) (fun _ _ => fv (v := .int .u64 (((x9 : Nat) : Int).fdiv (2 ^ 51))) ((vint (hx10 ▸ u_shr x9 51))) (by kernel_rfl)) ?_
  refine S_v (wd x10) ?_
  refine S_nil ?_
  refine E_inblock ?_
  refine E_then ?_
  refine C_region ?_
  refine S_v (.int .i64 3) ?_
  refine S_v (.int .i64 3) ?_
  refine S_nil ?_
  refine E_rounds ?_
  refine R_succ ?_
  refine C_forget (fun g => ⟨#[g 0, pt b1 0, pt b2 0, wd x10, g 4, g 5, g 6, g 7, g 8, g 9, g 10, g 11, g 12, g 13, g 14, .slice (some ⟨b1, 1, none⟩) 4 4, .int .i64 4, .int .i64 3, g 18, g 19, g 20, g 21, g 22, g 23, g 24, g 25, g 26, g 27, g 28, g 29, g 30, g 31, g 32, g 33, g 34, g 35, g 36, g 37, g 38, g 39, g 40, g 41, g 42, g 43, g 44, g 45, g 46, g 47, g 48, g 49, g 50, g 51, g 52, g 53, g 54, g 55], []⟩) (by kernel_rfl) ?_
  intro g
  refine C_seq ?_
  refine C_region ?_
  refine S_v (.bool true) ?_
  refine S_nil ?_
  refine E_then ?_
  refine C_seq ?_
  refine C_true (by kernel_rfl) ?_
  refine C_skip ?_
  refine E_then ?_
  refine C_seq ?_
  refine C_block ?_
  refine C_seq ?_
  refine C_region ?_
  refine S_v (pt b1 4) ?_
  refine S_val (wd y.l4) (by kernel_rfl) (ld1 1 b1 4 [wd y.l0, wd y.l1, wd y.l2, wd y.l3, wd y.l4] 31 rfl (by kernel_rfl) Tryd.isAgg29 (by kernel_rfl) (by kernel_rfl)) ?_
  refine S_v (wd y.l4) ?_
  refine S_nil ?_
  refine E_then ?_
  refine C_region ?_
  refine S_v (wd y.l4) ?_
  refine S_v (wd x10) ?_
  obtain ⟨x11, hx11, ux11⟩ : ∃ q, q = y.l4 + x10 ∧ q ≤ 2251799813693441 := ⟨_, rfl, Nat.add_le_add (Nat.le_of_lt g4) ux10⟩
  refine S_val (wd x11) (by kernel_rfl) (fun _ _ => fv (v := .int .u64 (IntKind.u64.wrap (((y.l4 : Nat) : Int) + ((x10 : Nat) : Int)))) ((vint (hx11 ▸ u_add_lt y.l4 x10 2251799813693441 (hx11 ▸ ux11) (by decide)))) (by kernel_rfl)) ?_
  obtain ⟨x12, hx12, ux12⟩ : ∃ q, q = x11 / 2 ^ 51 ∧ q ≤ 1 := ⟨_, rfl, Nat.le_trans (Nat.div_le_div_right ux11) (by decide)⟩
  refine S_val (wd x12) (by kernel_rfl) (fun _ _ => fv (v := .int .u64 (((x11 : Nat) : Int).fdiv (2 ^ 51))) ((vint (hx12 ▸ u_shr x11 51))) (by kernel_rfl)) ?_
  refine S_v (wd x12) ?_
  refine S_nil ?_
  refine E_inblock ?_
  refine E_then ?_
  refine C_region ?_
  refine S_v (.int .i64 4) ?_
  refine S_v (.int .i64 4) ?_
  refine S_nil ?_
  refine E_rounds ?_
  refine R_succ ?_
  refine C_forget (fun g => ⟨#[g 0, pt b1 0, pt b2 0, wd x12, g 4, g 5, g 6, g 7, g 8, g 9, g 10, g 11, g 12, g 13, g 14, .slice (some ⟨b1, 1, none⟩) 4 4, .int .i64 4, .int .i64 4, g 18, g 19, g 20, g 21, g 22, g 23, g 24, g 25, g 26, g 27, g 28, g 29, g 30, g 31, g 32, g 33, g 34, g 35, g 36, g 37, g 38, g 39, g 40, g 41, g 42, g 43, g 44, g 45, g 46, g 47, g 48, g 49, g 50, g 51, g 52, g 53, g 54, g 55], []⟩) (by kernel_rfl) ?_
  intro g
  refine C_seq ?_
  refine C_region ?_
  refine S_v (.bool false) ?_
  refine S_nil ?_
  refine E_then ?_
  refine C_seq ?_
  refine C_false (by kernel_rfl) ?_
  refine C_exit ?_
  refine E_pass_exit ?_
  refine E_pass_exit ?_
  refine E_outblock ?_
  refine E_then ?_
  refine C_seq ?_
  refine C_region ?_
  refine S_v (pt b1 0) ?_
  refine S_val (wd y.l0) (by kernel_rfl) (ld1 1 b1 0 [wd y.l0, wd y.l1, wd y.l2, wd y.l3, wd y.l4] 31 rfl (by kernel_rfl) Tryd.isAgg29 (by kernel_rfl) (by kernel_rfl)) ?_
  refine S_v (wd x12) ?_
  obtain ⟨x13, hx13, ux13⟩ : ∃ q, q = 19 * x12 ∧ q ≤ 19 := ⟨_, rfl, Nat.mul_le_mul (Nat.le_refl 19) ux12⟩
  refine S_val (wd x13) (by kernel_rfl) (fun _ _ => fv (v := .int .u64 (IntKind.u64.wrap (19 * ((x12 : Nat) : Int)))) ((vint (hx13 ▸ u_mul_lt 19 x12 19 (hx13 ▸ ux13) (by decide)))) (by kernel_rfl)) ?_
  obtain ⟨x14, hx14, ux14⟩ : ∃ q, q = y.l0 + x13 ∧ q ≤ 2251799813840915 := ⟨_, rfl, Nat.add_le_add (Nat.le_of_lt g0) ux13⟩
  refine S_val (wd x14) (by kernel_rfl) (fun _ _ => fv (v := .int .u64 (IntKind.u64.wrap (((y.l0 : Nat) : Int) + ((x13 : Nat) : Int)))) ((vint (hx14 ▸ u_add_lt y.l0 x13 2251799813840915 (hx14 ▸ ux14) (by decide)))) (by kernel_rfl)) ?_
  refine S_v (pt b1 0) ?_
  refine S_do (by kernel_rfl) (st1 (v := wd x14) (L' := [⟨b2, [.int .u64 0, .int .u64 0, .int .u64 0, .int .u64 0, .int .u64 0], 31⟩, ⟨b1, [wd x14, wd y.l1, wd y.l2, wd y.l3, wd y.l4], 31⟩]) 1 b1 0 [wd y.l0, wd y.l1, wd y.l2, wd y.l3, wd y.l4] 31 rfl (by kernel_rfl) (by kernel_rfl) Tryd.sizeOf29 (by rfl) (by kernel_rfl) (by simp) (by kernel_rfl)) ?_
  refine S_nil ?_
  refine E_then ?_
  refine C_seq ?_
  refine C_seq ?_
  refine C_region ?_
  refine S_v (.int .i64 0) ?_
  refine S_nil ?_
  refine E_then ?_
  refine C_block ?_
  refine C_unroll 5 ?_
  refine R_succ ?_
  refine C_forget (fun g => ⟨#[g 0, pt b1 0, pt b2 0, g 3, g 4, g 5, g 6, g 7, g 8, g 9, g 10, g 11, g 12, g 13, g 14, g 15, g 16, g 17, g 18, g 19, g 20, g 21, g 22, g 23, g 24, g 25, g 26, g 27, g 28, g 29, g 30, g 31, .int .i64 0, g 33, g 34, g 35, g 36, g 37, g 38, g 39, g 40, g 41, g 42, g 43, g 44, g 45, g 46, g 47, g 48, g 49, g 50, g 51, g 52, g 53, g 54, g 55], []⟩) (by kernel_rfl) ?_
  intro g
  refine C_seq ?_
  refine C_region ?_
  refine S_v (.bool true) ?_
  refine S_nil ?_
  refine E_then ?_
  refine C_seq ?_
  refine C_true (by kernel_rfl) ?_
  refine C_skip ?_
  refine E_then ?_
  refine C_seq ?_
  refine C_block ?_
  refine C_seq ?_
  refine C_region ?_
  refine S_v (.int .i64 0) ?_
  refine S_v (.int .i64 0) ?_
  refine S_nil ?_
  refine E_then ?_
  refine C_seq ?_
  refine C_drawn [.pure, .pure, .pure, .held, .pure, .pure, .held, .pure, .pure, .pure, .eff] (by kernel_rfl) (by kernel_rfl) ?_
  refine D_v (.int .i64 0) ?_
  refine D_v (.int .i64 1) ?_
  refine D_v (pt b1 1) ?_
  refine D_held (wd y.l1) (by kernel_rfl) (ld1 1 b1 1 [wd x14, wd y.l1, wd y.l2, wd y.l3, wd y.l4] 31 rfl (by kernel_rfl) Tryd.isAgg29 (by kernel_rfl) (by kernel_rfl)) ?_
  refine D_v (.int .i64 0) ?_
  refine D_v (pt b1 0) ?_
  refine D_held (wd x14) (by kernel_rfl) (ld1 1 b1 0 [wd x14, wd y.l1, wd y.l2, wd y.l3, wd y.l4] 31 rfl (by kernel_rfl) Tryd.isAgg29 (by kernel_rfl) (by kernel_rfl)) ?_
  obtain ⟨x15, hx15, ux15⟩ : ∃ q, q = x14 / 2 ^ 51 ∧ q ≤ 1 := ⟨_, rfl, Nat.le_trans (Nat.div_le_div_right ux14) (by decide)⟩
  refine D_val (wd x15) (by kernel_rfl) (fun _ => fv (v := .int .u64 (((x14 : Nat) : Int).fdiv (2 ^ 51))) ((vint (hx15 ▸ u_shr x14 51))) (by kernel_rfl)) ?_
  obtain ⟨x16, hx16, ux16⟩ : ∃ q, q = y.l1 + x15 ∧ q ≤ 2251799813693441 := ⟨_, rfl, Nat.add_le_add (Nat.le_of_lt g1) ux15⟩
  refine D_val (wd x16) (by kernel_rfl) (fun _ => fv (v := .int .u64 (IntKind.u64.wrap (((y.l1 : Nat) : Int) + ((x15 : Nat) : Int)))) ((vint (hx16 ▸ u_add_lt y.l1 x15 2251799813693441 (hx16 ▸ ux16) (by decide)))) (by kernel_rfl)) ?_
  refine D_v (pt b1 1) ?_
  refine D_do (by kernel_rfl) (st1 (v := wd x16) (L' := [⟨b2, [.int .u64 0, .int .u64 0, .int .u64 0, .int .u64 0, .int .u64 0], 31⟩, ⟨b1, [wd x14, wd x16, wd y.l2, wd y.l3, wd y.l4], 31⟩]) 1 b1 1 [wd x14, wd y.l1, wd y.l2, wd y.l3, wd y.l4] 31 rfl (by kernel_rfl) (by kernel_rfl) Tryd.sizeOf29 (by rfl) (by kernel_rfl) (by simp) (by kernel_rfl)) ?_
  refine D_nil ?_
  refine E_then ?_
  refine C_region ?_
  refine S_v (.int .i64 0) ?_
  refine S_v (pt b1 0) ?_
  refine S_val (wd x14) (by kernel_rfl) (ld1 1 b1 0 [wd x14, wd x16, wd y.l2, wd y.l3, wd y.l4] 31 rfl (by kernel_rfl) Tryd.isAgg29 (by kernel_rfl) (by kernel_rfl)) ?_
  obtain ⟨x17, hx17, lx17, mx17⟩ : ∃ q, q = x14 % 2 ^ 51 ∧ q < 18446744073709551616 ∧ q < 2 ^ 51 := ⟨_, rfl, by omega, Nat.mod_lt _ (by decide)⟩
  refine S_val (wd x17) (by kernel_rfl) (fun _ _ => fv (v := .int .u64 (IntKind.u64.wrap (((BitVec.ofInt IntKind.u64.bits ((x14 : Nat) : Int)) &&& (BitVec.ofInt IntKind.u64.bits 2251799813685247)).toNat : Int))) ((vint (hx17 ▸ u_and_mask x14 51 (Nat.lt_of_le_of_lt ux14 (by decide)) (by decide)))) (by kernel_rfl)) ?_
  refine S_v (pt b1 0) ?_
  refine S_do (by kernel_rfl) (st1 (v := wd x17) (L' := [⟨b2, [.int .u64 0, .int .u64 0, .int .u64 0, .int .u64 0, .int .u64 0], 31⟩, ⟨b1, [wd x17, wd x16, wd y.l2, wd y.l3, wd y.l4], 31⟩]) 1 b1 0 [wd x14, wd x16, wd y.l2, wd y.l3, wd y.l4] 31 rfl (by kernel_rfl) (by kernel_rfl) Tryd.sizeOf29 (by rfl) (by kernel_rfl) (by simp) (by kernel_rfl)) ?_
  refine S_nil ?_
  refine E_inblock ?_
  refine E_then ?_
  refine C_region ?_
  refine S_v (.int .i64 1) ?_
  refine S_v (.int .i64 1) ?_
  refine S_nil ?_
  refine E_rounds ?_
  refine R_succ ?_
  refine C_forget (fun g => ⟨#[g 0, pt b1 0, pt b2 0, g 3, g 4, g 5, g 6, g 7, g 8, g 9, g 10, g 11, g 12, g 13, g 14, g 15, g 16, g 17, g 18, g 19, g 20, g 21, g 22, g 23, g 24, g 25, g 26, g 27, g 28, g 29, g 30, g 31, .int .i64 1, g 33, g 34, g 35, g 36, g 37, g 38, g 39, g 40, g 41, g 42, g 43, g 44, g 45, g 46, g 47, g 48, g 49, g 50, g 51, g 52, g 53, g 54, g 55], []⟩) (by kernel_rfl) ?_
  intro g
  refine C_seq ?_
  refine C_region ?_
  refine S_v (.bool true) ?_
  refine S_nil ?_
  refine E_then ?_
  refine C_seq ?_
  refine C_true (by kernel_rfl) ?_
  refine C_skip ?_
  refine E_then ?_
  refine C_seq ?_
  refine C_block ?_
  refine C_seq ?_
  refine C_region ?_
  refine S_v (.int .i64 1) ?_
  refine S_v (.int .i64 1) ?_
  refine S_nil ?_
  refine E_then ?_
  refine C_seq ?_
  refine C_drawn [.pure, .pure, .pure, .held, .pure, .pure, .held, .pure, .pure, .pure, .eff] (by kernel_rfl) (by kernel_rfl) ?_
  refine D_v (.int .i64 1) ?_
  refine D_v (.int .i64 2) ?_
  refine D_v (pt b1 2) ?_
  refine D_held (wd y.l2) (by kernel_rfl) (ld1 1 b1 2 [wd x17, wd x16, wd y.l2, wd y.l3, wd y.l4] 31 rfl (by kernel_rfl) Tryd.isAgg29 (by kernel_rfl) (by kernel_rfl)) ?_
  refine D_v (.int .i64 1) ?_
  refine D_v (pt b1 1) ?_
  refine D_held (wd x16) (by kernel_rfl) (ld1 1 b1 1 [wd x17, wd x16, wd y.l2, wd y.l3, wd y.l4] 31 rfl (by kernel_rfl) Tryd.isAgg29 (by kernel_rfl) (by kernel_rfl)) ?_
  obtain ⟨x18, hx18, ux18⟩ : ∃ q, q = x16 / 2 ^ 51 ∧ q ≤ 1 := ⟨_, rfl, Nat.le_trans (Nat.div_le_div_right ux16) (by decide)⟩
  refine D_val (wd x18) (by kernel_rfl) (fun _ => fv (v := .int .u64 (((x16 : Nat) : Int).fdiv (2 ^ 51))) ((vint (hx18 ▸ u_shr x16 51))) (by kernel_rfl)) ?_
  obtain ⟨x19, hx19, ux19⟩ : ∃ q, q = y.l2 + x18 ∧ q ≤ 2251799813693441 := ⟨_, rfl, Nat.add_le_add (Nat.le_of_lt g2) ux18⟩
  refine D_val (wd x19) (by kernel_rfl) (fun _ => fv (v := .int .u64 (IntKind.u64.wrap (((y.l2 : Nat) : Int) + ((x18 : Nat) : Int)))) ((vint (hx19 ▸ u_add_lt y.l2 x18 2251799813693441 (hx19 ▸ ux19) (by decide)))) (by kernel_rfl)) ?_
  refine D_v (pt b1 2) ?_
  refine D_do (by kernel_rfl) (st1 (v := wd x19) (L' := [⟨b2, [.int .u64 0, .int .u64 0, .int .u64 0, .int .u64 0, .int .u64 0], 31⟩, ⟨b1, [wd x17, wd x16, wd x19, wd y.l3, wd y.l4], 31⟩]) 1 b1 2 [wd x17, wd x16, wd y.l2, wd y.l3, wd y.l4] 31 rfl (by kernel_rfl) (by kernel_rfl) Tryd.sizeOf29 (by rfl) (by kernel_rfl) (by simp) (by kernel_rfl)) ?_
  refine D_nil ?_
  refine E_then ?_
  refine C_region ?_
  refine S_v (.int .i64 1) ?_
  refine S_v (pt b1 1) ?_
  refine S_val (wd x16) (by kernel_rfl) (ld1 1 b1 1 [wd x17, wd x16, wd x19, wd y.l3, wd y.l4] 31 rfl (by kernel_rfl) Tryd.isAgg29 (by kernel_rfl) (by kernel_rfl)) ?_
  obtain ⟨x20, hx20, lx20, mx20⟩ : ∃ q, q = x16 % 2 ^ 51 ∧ q < 18446744073709551616 ∧ q < 2 ^ 51 := ⟨_, rfl, by omega, Nat.mod_lt _ (by decide)⟩
  refine S_val (wd x20) (by kernel_rfl) (fun _ _ => fv (v := .int .u64 (IntKind.u64.wrap (((BitVec.ofInt IntKind.u64.bits ((x16 : Nat) : Int)) &&& (BitVec.ofInt IntKind.u64.bits 2251799813685247)).toNat : Int))) ((vint (hx20 ▸ u_and_mask x16 51 (Nat.lt_of_le_of_lt ux16 (by decide)) (by decide)))) (by kernel_rfl)) ?_
  refine S_v (pt b1 1) ?_
  refine S_do (by kernel_rfl) (st1 (v := wd x20) (L' := [⟨b2, [.int .u64 0, .int .u64 0, .int .u64 0, .int .u64 0, .int .u64 0], 31⟩, ⟨b1, [wd x17, wd x20, wd x19, wd y.l3, wd y.l4], 31⟩]) 1 b1 1 [wd x17, wd x16, wd x19, wd y.l3, wd y.l4] 31 rfl (by kernel_rfl) (by kernel_rfl) Tryd.sizeOf29 (by rfl) (by kernel_rfl) (by simp) (by kernel_rfl)) ?_
  refine S_nil ?_
  refine E_inblock ?_
  refine E_then ?_
  refine C_region ?_
  refine S_v (.int .i64 2) ?_
  refine S_v (.int .i64 2) ?_
  refine S_nil ?_
  refine E_rounds ?_
  refine R_succ ?_
  refine C_forget (fun g => ⟨#[g 0, pt b1 0, pt b2 0, g 3, g 4, g 5, g 6, g 7, g 8, g 9, g 10, g 11, g 12, g 13, g 14, g 15, g 16, g 17, g 18, g 19, g 20, g 21, g 22, g 23, g 24, g 25, g 26, g 27, g 28, g 29, g 30, g 31, .int .i64 2, g 33, g 34, g 35, g 36, g 37, g 38, g 39, g 40, g 41, g 42, g 43, g 44, g 45, g 46, g 47, g 48, g 49, g 50, g 51, g 52, g 53, g 54, g 55], []⟩) (by kernel_rfl) ?_
  intro g
  refine C_seq ?_
  refine C_region ?_
  refine S_v (.bool true) ?_
  refine S_nil ?_
  refine E_then ?_
  refine C_seq ?_
  refine C_true (by kernel_rfl) ?_
  refine C_skip ?_
  refine E_then ?_
  refine C_seq ?_
  refine C_block ?_
  refine C_seq ?_
  refine C_region ?_
  refine S_v (.int .i64 2) ?_
  refine S_v (.int .i64 2) ?_
  refine S_nil ?_
  refine E_then ?_
  refine C_seq ?_
  refine C_drawn [.pure, .pure, .pure, .held, .pure, .pure, .held, .pure, .pure, .pure, .eff] (by kernel_rfl) (by kernel_rfl) ?_
  refine D_v (.int .i64 2) ?_
  refine D_v (.int .i64 3) ?_
  refine D_v (pt b1 3) ?_
  refine D_held (wd y.l3) (by kernel_rfl) (ld1 1 b1 3 [wd x17, wd x20, wd x19, wd y.l3, wd y.l4] 31 rfl (by kernel_rfl) Tryd.isAgg29 (by kernel_rfl) (by kernel_rfl)) ?_
  refine D_v (.int .i64 2) ?_
  refine D_v (pt b1 2) ?_
  refine D_held (wd x19) (by kernel_rfl) (ld1 1 b1 2 [wd x17, wd x20, wd x19, wd y.l3, wd y.l4] 31 rfl (by kernel_rfl) Tryd.isAgg29 (by kernel_rfl) (by kernel_rfl)) ?_
  obtain ⟨x21, hx21, ux21⟩ : ∃ q, q = x19 / 2 ^ 51 ∧ q ≤ 1 := ⟨_, rfl, Nat.le_trans (Nat.div_le_div_right ux19) (by decide)⟩
  refine D_val (wd x21) (by kernel_rfl) (fun _ => fv (v := .int .u64 (((x19 : Nat) : Int).fdiv (2 ^ 51))) ((vint (hx21 ▸ u_shr x19 51))) (by kernel_rfl)) ?_
  obtain ⟨x22, hx22, ux22⟩ : ∃ q, q = y.l3 + x21 ∧ q ≤ 2251799813693441 := ⟨_, rfl, Nat.add_le_add (Nat.le_of_lt g3) ux21⟩
  refine D_val (wd x22) (by kernel_rfl) (fun _ => fv (v := .int .u64 (IntKind.u64.wrap (((y.l3 : Nat) : Int) + ((x21 : Nat) : Int)))) ((vint (hx22 ▸ u_add_lt y.l3 x21 2251799813693441 (hx22 ▸ ux22) (by decide)))) (by kernel_rfl)) ?_
  refine D_v (pt b1 3) ?_
  refine D_do (by kernel_rfl) (st1 (v := wd x22) (L' := [⟨b2, [.int .u64 0, .int .u64 0, .int .u64 0, .int .u64 0, .int .u64 0], 31⟩, ⟨b1, [wd x17, wd x20, wd x19, wd x22, wd y.l4], 31⟩]) 1 b1 3 [wd x17, wd x20, wd x19, wd y.l3, wd y.l4] 31 rfl (by kernel_rfl) (by kernel_rfl) Tryd.sizeOf29 (by rfl) (by kernel_rfl) (by simp) (by kernel_rfl)) ?_
  refine D_nil ?_
  refine E_then ?_
  refine C_region ?_
  refine S_v (.int .i64 2) ?_
  refine S_v (pt b1 2) ?_
  refine S_val (wd x19) (by kernel_rfl) (ld1 1 b1 2 [wd x17, wd x20, wd x19, wd x22, wd y.l4] 31 rfl (by kernel_rfl) Tryd.isAgg29 (by kernel_rfl) (by kernel_rfl)) ?_
  obtain ⟨x23, hx23, lx23, mx23⟩ : ∃ q, q = x19 % 2 ^ 51 ∧ q < 18446744073709551616 ∧ q < 2 ^ 51 := ⟨_, rfl, by omega, Nat.mod_lt _ (by decide)⟩
  refine S_val (wd x23) (by kernel_rfl) (fun _ _ => fv (v := .int .u64 (IntKind.u64.wrap (((BitVec.ofInt IntKind.u64.bits ((x19 : Nat) : Int)) &&& (BitVec.ofInt IntKind.u64.bits 2251799813685247)).toNat : Int))) ((vint (hx23 ▸ u_and_mask x19 51 (Nat.lt_of_le_of_lt ux19 (by decide)) (by decide)))) (by kernel_rfl)) ?_
  refine S_v (pt b1 2) ?_
  refine S_do (by kernel_rfl) (st1 (v := wd x23) (L' := [⟨b2, [.int .u64 0, .int .u64 0, .int .u64 0, .int .u64 0, .int .u64 0], 31⟩, ⟨b1, [wd x17, wd x20, wd x23, wd x22, wd y.l4], 31⟩]) 1 b1 2 [wd x17, wd x20, wd x19, wd x22, wd y.l4] 31 rfl (by kernel_rfl) (by kernel_rfl) Tryd.sizeOf29 (by rfl) (by kernel_rfl) (by simp) (by kernel_rfl)) ?_
  refine S_nil ?_
  refine E_inblock ?_
  refine E_then ?_
  refine C_region ?_
  refine S_v (.int .i64 3) ?_
  refine S_v (.int .i64 3) ?_
  refine S_nil ?_
  refine E_rounds ?_
  refine R_succ ?_
  refine C_forget (fun g => ⟨#[g 0, pt b1 0, pt b2 0, g 3, g 4, g 5, g 6, g 7, g 8, g 9, g 10, g 11, g 12, g 13, g 14, g 15, g 16, g 17, g 18, g 19, g 20, g 21, g 22, g 23, g 24, g 25, g 26, g 27, g 28, g 29, g 30, g 31, .int .i64 3, g 33, g 34, g 35, g 36, g 37, g 38, g 39, g 40, g 41, g 42, g 43, g 44, g 45, g 46, g 47, g 48, g 49, g 50, g 51, g 52, g 53, g 54, g 55], []⟩) (by kernel_rfl) ?_
  intro g
  refine C_seq ?_
  refine C_region ?_
  refine S_v (.bool true) ?_
  refine S_nil ?_
  refine E_then ?_
  refine C_seq ?_
  refine C_true (by kernel_rfl) ?_
  refine C_skip ?_
  refine E_then ?_
  refine C_seq ?_
  refine C_block ?_
  refine C_seq ?_
  refine C_region ?_
  refine S_v (.int .i64 3) ?_
  refine S_v (.int .i64 3) ?_
  refine S_nil ?_
  refine E_then ?_
  refine C_seq ?_
  refine C_drawn [.pure, .pure, .pure, .held, .pure, .pure, .held, .pure, .pure, .pure, .eff] (by kernel_rfl) (by kernel_rfl) ?_
  refine D_v (.int .i64 3) ?_
  refine D_v (.int .i64 4) ?_
  refine D_v (pt b1 4) ?_
  refine D_held (wd y.l4) (by kernel_rfl) (ld1 1 b1 4 [wd x17, wd x20, wd x23, wd x22, wd y.l4] 31 rfl (by kernel_rfl) Tryd.isAgg29 (by kernel_rfl) (by kernel_rfl)) ?_
  refine D_v (.int .i64 3) ?_
  refine D_v (pt b1 3) ?_
  refine D_held (wd x22) (by kernel_rfl) (ld1 1 b1 3 [wd x17, wd x20, wd x23, wd x22, wd y.l4] 31 rfl (by kernel_rfl) Tryd.isAgg29 (by kernel_rfl) (by kernel_rfl)) ?_
  obtain ⟨x24, hx24, ux24⟩ : ∃ q, q = x22 / 2 ^ 51 ∧ q ≤ 1 := ⟨_, rfl, Nat.le_trans (Nat.div_le_div_right ux22) (by decide)⟩
  refine D_val (wd x24) (by kernel_rfl) (fun _ => fv (v := .int .u64 (((x22 : Nat) : Int).fdiv (2 ^ 51))) ((vint (hx24 ▸ u_shr x22 51))) (by kernel_rfl)) ?_
  obtain ⟨x25, hx25, ux25⟩ : ∃ q, q = y.l4 + x24 ∧ q ≤ 2251799813693441 := ⟨_, rfl, Nat.add_le_add (Nat.le_of_lt g4) ux24⟩
  refine D_val (wd x25) (by kernel_rfl) (fun _ => fv (v := .int .u64 (IntKind.u64.wrap (((y.l4 : Nat) : Int) + ((x24 : Nat) : Int)))) ((vint (hx25 ▸ u_add_lt y.l4 x24 2251799813693441 (hx25 ▸ ux25) (by decide)))) (by kernel_rfl)) ?_
  refine D_v (pt b1 4) ?_
  refine D_do (by kernel_rfl) (st1 (v := wd x25) (L' := [⟨b2, [.int .u64 0, .int .u64 0, .int .u64 0, .int .u64 0, .int .u64 0], 31⟩, ⟨b1, [wd x17, wd x20, wd x23, wd x22, wd x25], 31⟩]) 1 b1 4 [wd x17, wd x20, wd x23, wd x22, wd y.l4] 31 rfl (by kernel_rfl) (by kernel_rfl) Tryd.sizeOf29 (by rfl) (by kernel_rfl) (by simp) (by kernel_rfl)) ?_
  refine D_nil ?_
  refine E_then ?_
  refine C_region ?_
  refine S_v (.int .i64 3) ?_
  refine S_v (pt b1 3) ?_
  refine S_val (wd x22) (by kernel_rfl) (ld1 1 b1 3 [wd x17, wd x20, wd x23, wd x22, wd x25] 31 rfl (by kernel_rfl) Tryd.isAgg29 (by kernel_rfl) (by kernel_rfl)) ?_
  obtain ⟨x26, hx26, lx26, mx26⟩ : ∃ q, q = x22 % 2 ^ 51 ∧ q < 18446744073709551616 ∧ q < 2 ^ 51 := ⟨_, rfl, by omega, Nat.mod_lt _ (by decide)⟩
  refine S_val (wd x26) (by kernel_rfl) (fun _ _ => fv (v := .int .u64 (IntKind.u64.wrap (((BitVec.ofInt IntKind.u64.bits ((x22 : Nat) : Int)) &&& (BitVec.ofInt IntKind.u64.bits 2251799813685247)).toNat : Int))) ((vint (hx26 ▸ u_and_mask x22 51 (Nat.lt_of_le_of_lt ux22 (by decide)) (by decide)))) (by kernel_rfl)) ?_
  refine S_v (pt b1 3) ?_
  refine S_do (by kernel_rfl) (st1 (v := wd x26) (L' := [⟨b2, [.int .u64 0, .int .u64 0, .int .u64 0, .int .u64 0, .int .u64 0], 31⟩, ⟨b1, [wd x17, wd x20, wd x23, wd x26, wd x25], 31⟩]) 1 b1 3 [wd x17, wd x20, wd x23, wd x22, wd x25] 31 rfl (by kernel_rfl) (by kernel_rfl) Tryd.sizeOf29 (by rfl) (by kernel_rfl) (by simp) (by kernel_rfl)) ?_
  refine S_nil ?_
  refine E_inblock ?_
  refine E_then ?_
  refine C_region ?_
  refine S_v (.int .i64 4) ?_
  refine S_v (.int .i64 4) ?_
  refine S_nil ?_
  refine E_rounds ?_
  refine R_succ ?_
  refine C_forget (fun g => ⟨#[g 0, pt b1 0, pt b2 0, g 3, g 4, g 5, g 6, g 7, g 8, g 9, g 10, g 11, g 12, g 13, g 14, g 15, g 16, g 17, g 18, g 19, g 20, g 21, g 22, g 23, g 24, g 25, g 26, g 27, g 28, g 29, g 30, g 31, .int .i64 4, g 33, g 34, g 35, g 36, g 37, g 38, g 39, g 40, g 41, g 42, g 43, g 44, g 45, g 46, g 47, g 48, g 49, g 50, g 51, g 52, g 53, g 54, g 55], []⟩) (by kernel_rfl) ?_
  intro g
  refine C_seq ?_
  refine C_region ?_
  refine S_v (.bool false) ?_
  refine S_nil ?_
  refine E_then ?_
  refine C_seq ?_
  refine C_false (by kernel_rfl) ?_
  refine C_exit ?_
  refine E_pass_exit ?_
  refine E_pass_exit ?_
  refine E_outblock ?_
  refine E_then ?_
  refine C_seq ?_
  refine C_region ?_
  refine S_v (pt b1 4) ?_
  refine S_val (wd x25) (by kernel_rfl) (ld1 1 b1 4 [wd x17, wd x20, wd x23, wd x26, wd x25] 31 rfl (by kernel_rfl) Tryd.isAgg29 (by kernel_rfl) (by kernel_rfl)) ?_
  obtain ⟨x27, hx27, lx27, mx27⟩ : ∃ q, q = x25 % 2 ^ 51 ∧ q < 18446744073709551616 ∧ q < 2 ^ 51 := ⟨_, rfl, by omega, Nat.mod_lt _ (by decide)⟩
  refine S_val (wd x27) (by kernel_rfl) (fun _ _ => fv (v := .int .u64 (IntKind.u64.wrap (((BitVec.ofInt IntKind.u64.bits ((x25 : Nat) : Int)) &&& (BitVec.ofInt IntKind.u64.bits 2251799813685247)).toNat : Int))) ((vint (hx27 ▸ u_and_mask x25 51 (Nat.lt_of_le_of_lt ux25 (by decide)) (by decide)))) (by kernel_rfl)) ?_
  refine S_v (pt b1 4) ?_
  refine S_do (by kernel_rfl) (st1 (v := wd x27) (L' := [⟨b2, [.int .u64 0, .int .u64 0, .int .u64 0, .int .u64 0, .int .u64 0], 31⟩, ⟨b1, [wd x17, wd x20, wd x23, wd x26, wd x27], 31⟩]) 1 b1 4 [wd x17, wd x20, wd x23, wd x26, wd x25] 31 rfl (by kernel_rfl) (by kernel_rfl) Tryd.sizeOf29 (by rfl) (by kernel_rfl) (by simp) (by kernel_rfl)) ?_
  refine S_nil ?_
  refine E_then ?_
  refine C_seq ?_
  refine C_region ?_
  refine S_val (.agg #[wd x17, wd x20, wd x23, wd x26, wd x27]) (by kernel_rfl) (ldN [wd x17, wd x20, wd x23, wd x26, wd x27] 1 b1 0 [wd x17, wd x20, wd x23, wd x26, wd x27] 31 rfl (by kernel_rfl) Tryd.isAgg31 Tryd.sizeOf31 (by kernel_rfl) (by kernel_rfl)) ?_
  refine S_do (by kernel_rfl) (stN (L' := [⟨b2, [wd x17, wd x20, wd x23, wd x26, wd x27], 31⟩, ⟨b1, [wd x17, wd x20, wd x23, wd x26, wd x27], 31⟩]) [wd x17, wd x20, wd x23, wd x26, wd x27] 0 b2 0 [.int .u64 0, .int .u64 0, .int .u64 0, .int .u64 0, .int .u64 0] 31 rfl (by kernel_rfl) (by kernel_rfl) Tryd.sizeOf31 (by simp [Value.oneCell']) (by kernel_rfl) (by simp) (by kernel_rfl)) ?_
  refine S_nil ?_
  refine E_then ?_
  refine C_ret ?_
  have E := least_law5 (Nat.le_of_lt g0) (Nat.le_of_lt g1) (Nat.le_of_lt g2) (Nat.le_of_lt g3) (Nat.le_of_lt g4) hx3 hx4 hx5 hx6 hx7 hx8 hx9 hx10 hx11 hx12 hx13 hx14 hx15 hx16 hx17 hx18 hx19 hx20 hx21 hx22 hx23 hx24 hx25 hx26 hx27
  rw [show (F5.of (y.val % pp)).v = _ from F5.join (Nat.le_of_lt_succ mx17) (Nat.le_of_lt_succ mx20) (Nat.le_of_lt_succ mx23) (Nat.le_of_lt_succ mx26) (Nat.le_of_lt_succ mx27) E]
  exact pure_ret rfl (resC Tryd.results33 [wd x17, wd x20, wd x23, wd x26, wd x27] 0 b2 31 (by kernel_rfl) Tryd.isAgg31 Tryd.sizeOf31 (by kernel_rfl))
theorem c_last (a0 a1 a2 a3 a4 : Nat) (h0 : a0 ≤ 2251799813840896) (h1 : a1 ≤ 2251799813693440) (h2 : a2 ≤ 2251799813693440) (h3 : a3 ≤ 2251799813693440) (h4 : a4 ≤ 2251799813693440) : Pure Tryd.prog 74 #[wd a0, wd a1, wd a2, wd a3, wd a4] ((F5.of ((a0 + 2251799813685248 * a1 + 5070602400912917605986812821504 * a2 + 11417981541647679048466287755595961091061972992 * a3 + 25711008708143844408671393477458601640355247900524685364822016 * a4) % pp)).v) := by
  refine pure_of Tryd.func74 rfl (fun w0 => ?_)
  refine C_seq ?_
  refine C_region ?_
  refine S_newv (fun nb0 => pt nb0 0) [.int .u64 0, .int .u64 0, .int .u64 0, .int .u64 0, .int .u64 0] 31 (by kernel_rfl) (fun w _ => by kernel_rfl) ?_
  intro b1 hb1 Hb1
  refine S_nil ?_
  refine E_then ?_
  refine C_seq ?_
  refine C_region ?_
  refine S_v (wd a0) ?_
  obtain ⟨x2, hx2, ux2⟩ : ∃ q, q = a0 + 19 ∧ q ≤ 2251799813840915 := ⟨_, rfl, Nat.add_le_add h0 (Nat.le_refl 19)⟩
  refine S_val (wd x2) (by kernel_rfl) (fun _ _ => fv (v := .int .u64 (IntKind.u64.wrap (((a0 : Nat) : Int) + 19))) ((vint (hx2 ▸ u_add_lt a0 19 2251799813840915 (hx2 ▸ ux2) (by decide)))) (by kernel_rfl)) ?_
  obtain ⟨x3, hx3, ux3⟩ : ∃ q, q = x2 / 2 ^ 51 ∧ q ≤ 1 := ⟨_, rfl, Nat.le_trans (Nat.div_le_div_right ux2) (by decide)⟩
  refine S_val (wd x3) (by kernel_rfl) (fun _ _ => fv (v := .int .u64 (((x2 : Nat) : Int).fdiv (2 ^ 51))) ((vint (hx3 ▸ u_shr x2 51))) (by kernel_rfl)) ?_
  refine S_v (wd x3) ?_
  refine S_nil ?_
  refine E_then ?_
  refine C_seq ?_
  refine C_region ?_
  refine S_v (wd a1) ?_
  refine S_v (wd x3) ?_
  obtain ⟨x4, hx4, ux4⟩ : ∃ q, q = a1 + x3 ∧ q ≤ 2251799813693441 := ⟨_, rfl, Nat.add_le_add h1 ux3⟩
  refine S_val (wd x4) (by kernel_rfl) (fun _ _ => fv (v := .int .u64 (IntKind.u64.wrap (((a1 : Nat) : Int) + ((x3 : Nat) : Int)))) ((vint (hx4 ▸ u_add_lt a1 x3 2251799813693441 (hx4 ▸ ux4) (by decide)))) (by kernel_rfl)) ?_
  obtain ⟨x5, hx5, ux5⟩ : ∃ q, q = x4 / 2 ^ 51 ∧ q ≤ 1 := ⟨_, rfl, Nat.le_trans (Nat.div_le_div_right ux4) (by decide)⟩
  refine S_val (wd x5) (by kernel_rfl) (fun _ _ => fv (v := .int .u64 (((x4 : Nat) : Int).fdiv (2 ^ 51))) ((vint (hx5 ▸ u_shr x4 51))) (by kernel_rfl)) ?_
  refine S_v (wd x5) ?_
  refine S_nil ?_
  refine E_then ?_
  refine C_seq ?_
  refine C_region ?_
  refine S_v (wd a2) ?_
  refine S_v (wd x5) ?_
  obtain ⟨x6, hx6, ux6⟩ : ∃ q, q = a2 + x5 ∧ q ≤ 2251799813693441 := ⟨_, rfl, Nat.add_le_add h2 ux5⟩
  refine S_val (wd x6) (by kernel_rfl) (fun _ _ => fv (v := .int .u64 (IntKind.u64.wrap (((a2 : Nat) : Int) + ((x5 : Nat) : Int)))) ((vint (hx6 ▸ u_add_lt a2 x5 2251799813693441 (hx6 ▸ ux6) (by decide)))) (by kernel_rfl)) ?_
  obtain ⟨x7, hx7, ux7⟩ : ∃ q, q = x6 / 2 ^ 51 ∧ q ≤ 1 := ⟨_, rfl, Nat.le_trans (Nat.div_le_div_right ux6) (by decide)⟩
  refine S_val (wd x7) (by kernel_rfl) (fun _ _ => fv (v := .int .u64 (((x6 : Nat) : Int).fdiv (2 ^ 51))) ((vint (hx7 ▸ u_shr x6 51))) (by kernel_rfl)) ?_
  refine S_v (wd x7) ?_
  refine S_nil ?_
  refine E_then ?_
  refine C_seq ?_
  refine C_region ?_
  refine S_v (wd a3) ?_
  refine S_v (wd x7) ?_
  obtain ⟨x8, hx8, ux8⟩ : ∃ q, q = a3 + x7 ∧ q ≤ 2251799813693441 := ⟨_, rfl, Nat.add_le_add h3 ux7⟩
  refine S_val (wd x8) (by kernel_rfl) (fun _ _ => fv (v := .int .u64 (IntKind.u64.wrap (((a3 : Nat) : Int) + ((x7 : Nat) : Int)))) ((vint (hx8 ▸ u_add_lt a3 x7 2251799813693441 (hx8 ▸ ux8) (by decide)))) (by kernel_rfl)) ?_
  obtain ⟨x9, hx9, ux9⟩ : ∃ q, q = x8 / 2 ^ 51 ∧ q ≤ 1 := ⟨_, rfl, Nat.le_trans (Nat.div_le_div_right ux8) (by decide)⟩
  refine S_val (wd x9) (by kernel_rfl) (fun _ _ => fv (v := .int .u64 (((x8 : Nat) : Int).fdiv (2 ^ 51))) ((vint (hx9 ▸ u_shr x8 51))) (by kernel_rfl)) ?_
  refine S_v (wd x9) ?_
  refine S_nil ?_
  refine E_then ?_
  refine C_seq ?_
  refine C_region ?_
  refine S_v (wd a4) ?_
  refine S_v (wd x9) ?_
  obtain ⟨x10, hx10, ux10⟩ : ∃ q, q = a4 + x9 ∧ q ≤ 2251799813693441 := ⟨_, rfl, Nat.add_le_add h4 ux9⟩
  refine S_val (wd x10) (by kernel_rfl) (fun _ _ => fv (v := .int .u64 (IntKind.u64.wrap (((a4 : Nat) : Int) + ((x9 : Nat) : Int)))) ((vint (hx10 ▸ u_add_lt a4 x9 2251799813693441 (hx10 ▸ ux10) (by decide)))) (by kernel_rfl)) ?_
  obtain ⟨x11, hx11, ux11⟩ : ∃ q, q = x10 / 2 ^ 51 ∧ q ≤ 1 := ⟨_, rfl, Nat.le_trans (Nat.div_le_div_right ux10) (by decide)⟩
  refine S_val (wd x11) (by kernel_rfl) (fun _ _ => fv (v := .int .u64 (((x10 : Nat) : Int).fdiv (2 ^ 51))) ((vint (hx11 ▸ u_shr x10 51))) (by kernel_rfl)) ?_
  refine S_v (wd x11) ?_
  refine S_nil ?_
  refine E_then ?_
  refine C_seq ?_
  refine C_region ?_
  refine S_v (wd a0) ?_
  refine S_v (wd x11) ?_
  obtain ⟨x12, hx12, ux12⟩ : ∃ q, q = 19 * x11 ∧ q ≤ 19 := ⟨_, rfl, Nat.mul_le_mul (Nat.le_refl 19) ux11⟩
  refine S_val (wd x12) (by kernel_rfl) (fun _ _ => fv (v := .int .u64 (IntKind.u64.wrap (19 * ((x11 : Nat) : Int)))) ((vint (hx12 ▸ u_mul_lt 19 x11 19 (hx12 ▸ ux12) (by decide)))) (by kernel_rfl)) ?_
  obtain ⟨x13, hx13, ux13⟩ : ∃ q, q = a0 + x12 ∧ q ≤ 2251799813840915 := ⟨_, rfl, Nat.add_le_add h0 ux12⟩
  refine S_val (wd x13) (by kernel_rfl) (fun _ _ => fv (v := .int .u64 (IntKind.u64.wrap (((a0 : Nat) : Int) + ((x12 : Nat) : Int)))) ((vint (hx13 ▸ u_add_lt a0 x12 2251799813840915 (hx13 ▸ ux13) (by decide)))) (by kernel_rfl)) ?_
  refine S_v (wd x13) ?_
  refine S_nil ?_
  refine E_then ?_
  refine C_seq ?_
  refine C_region ?_
  refine S_v (wd a1) ?_
  refine S_v (wd x13) ?_
  obtain ⟨x14, hx14, ux14⟩ : ∃ q, q = x13 / 2 ^ 51 ∧ q ≤ 1 := ⟨_, rfl, Nat.le_trans (Nat.div_le_div_right ux13) (by decide)⟩
  refine S_val (wd x14) (by kernel_rfl) (fun _ _ => fv (v := .int .u64 (((x13 : Nat) : Int).fdiv (2 ^ 51))) ((vint (hx14 ▸ u_shr x13 51))) (by kernel_rfl)) ?_
  obtain ⟨x15, hx15, ux15⟩ : ∃ q, q = a1 + x14 ∧ q ≤ 2251799813693441 := ⟨_, rfl, Nat.add_le_add h1 ux14⟩
  refine S_val (wd x15) (by kernel_rfl) (fun _ _ => fv (v := .int .u64 (IntKind.u64.wrap (((a1 : Nat) : Int) + ((x14 : Nat) : Int)))) ((vint (hx15 ▸ u_add_lt a1 x14 2251799813693441 (hx15 ▸ ux15) (by decide)))) (by kernel_rfl)) ?_
  refine S_v (wd x15) ?_
  refine S_nil ?_
  refine E_then ?_
  refine C_seq ?_
  refine C_region ?_
  refine S_v (wd a2) ?_
  refine S_v (wd x15) ?_
  obtain ⟨x16, hx16, ux16⟩ : ∃ q, q = x15 / 2 ^ 51 ∧ q ≤ 1 := ⟨_, rfl, Nat.le_trans (Nat.div_le_div_right ux15) (by decide)⟩
  refine S_val (wd x16) (by kernel_rfl) (fun _ _ => fv (v := .int .u64 (((x15 : Nat) : Int).fdiv (2 ^ 51))) ((vint (hx16 ▸ u_shr x15 51))) (by kernel_rfl)) ?_
  obtain ⟨x17, hx17, ux17⟩ : ∃ q, q = a2 + x16 ∧ q ≤ 2251799813693441 := ⟨_, rfl, Nat.add_le_add h2 ux16⟩
  refine S_val (wd x17) (by kernel_rfl) (fun _ _ => fv (v := .int .u64 (IntKind.u64.wrap (((a2 : Nat) : Int) + ((x16 : Nat) : Int)))) ((vint (hx17 ▸ u_add_lt a2 x16 2251799813693441 (hx17 ▸ ux17) (by decide)))) (by kernel_rfl)) ?_
  refine S_v (wd x17) ?_
  refine S_nil ?_
  refine E_then ?_
  refine C_seq ?_
  refine C_region ?_
  refine S_v (wd a3) ?_
  refine S_v (wd x17) ?_
  obtain ⟨x18, hx18, ux18⟩ : ∃ q, q = x17 / 2 ^ 51 ∧ q ≤ 1 := ⟨_, rfl, Nat.le_trans (Nat.div_le_div_right ux17) (by decide)⟩
  refine S_val (wd x18) (by kernel_rfl) (fun _ _ => fv (v := .int .u64 (((x17 : Nat) : Int).fdiv (2 ^ 51))) ((vint (hx18 ▸ u_shr x17 51))) (by kernel_rfl)) ?_
  obtain ⟨x19, hx19, ux19⟩ : ∃ q, q = a3 + x18 ∧ q ≤ 2251799813693441 := ⟨_, rfl, Nat.add_le_add h3 ux18⟩
  refine S_val (wd x19) (by kernel_rfl) (fun _ _ => fv (v := .int .u64 (IntKind.u64.wrap (((a3 : Nat) : Int) + ((x18 : Nat) : Int)))) ((vint (hx19 ▸ u_add_lt a3 x18 2251799813693441 (hx19 ▸ ux19) (by decide)))) (by kernel_rfl)) ?_
  refine S_v (wd x19) ?_
  refine S_nil ?_
  refine E_then ?_
  refine C_seq ?_
  refine C_region ?_
  refine S_v (wd a4) ?_
  refine S_v (wd x19) ?_
  obtain ⟨x20, hx20, ux20⟩ : ∃ q, q = x19 / 2 ^ 51 ∧ q ≤ 1 := ⟨_, rfl, Nat.le_trans (Nat.div_le_div_right ux19) (by decide)⟩
  refine S_val (wd x20) (by kernel_rfl) (fun _ _ => fv (v := .int .u64 (((x19 : Nat) : Int).fdiv (2 ^ 51))) ((vint (hx20 ▸ u_shr x19 51))) (by kernel_rfl)) ?_
  obtain ⟨x21, hx21, ux21⟩ : ∃ q, q = a4 + x20 ∧ q ≤ 2251799813693441 := ⟨_, rfl, Nat.add_le_add h4 ux20⟩
  refine S_val (wd x21) (by kernel_rfl) (fun _ _ => fv (v := .int .u64 (IntKind.u64.wrap (((a4 : Nat) : Int) + ((x20 : Nat) : Int)))) ((vint (hx21 ▸ u_add_lt a4 x20 2251799813693441 (hx21 ▸ ux21) (by decide)))) (by kernel_rfl)) ?_
  refine S_v (wd x21) ?_
  refine S_nil ?_
  refine E_then ?_
  refine C_seq ?_
  refine C_region ?_
  refine S_v (wd x13) ?_
  obtain ⟨x22, hx22, lx22, mx22⟩ : ∃ q, q = x13 % 2 ^ 51 ∧ q < 18446744073709551616 ∧ q < 2 ^ 51 := ⟨_, rfl, by omega, Nat.mod_lt _ (by decide)⟩
  refine S_val (wd x22) (by kernel_rfl) (fun _ _ => fv (v := .int .u64 (IntKind.u64.wrap (((BitVec.ofInt IntKind.u64.bits ((x13 : Nat) : Int)) &&& (BitVec.ofInt IntKind.u64.bits 2251799813685247)).toNat : Int))) ((vint (hx22 ▸ u_and_mask x13 51 (Nat.lt_of_le_of_lt ux13 (by decide)) (by decide)))) (by kernel_rfl)) ?_
  refine S_v (wd x15) ?_
  obtain ⟨x23, hx23, lx23, mx23⟩ : ∃ q, q = x15 % 2 ^ 51 ∧ q < 18446744073709551616 ∧ q < 2 ^ 51 := ⟨_, rfl, by omega, Nat.mod_lt _ (by decide)⟩
  refine S_val (wd x23) (by kernel_rfl) (fun _ _ => fv (v := .int .u64 (IntKind.u64.wrap (((BitVec.ofInt IntKind.u64.bits ((x15 : Nat) : Int)) &&& (BitVec.ofInt IntKind.u64.bits 2251799813685247)).toNat : Int))) ((vint (hx23 ▸ u_and_mask x15 51 (Nat.lt_of_le_of_lt ux15 (by decide)) (by decide)))) (by kernel_rfl)) ?_
  refine S_v (wd x17) ?_
  obtain ⟨x24, hx24, lx24, mx24⟩ : ∃ q, q = x17 % 2 ^ 51 ∧ q < 18446744073709551616 ∧ q < 2 ^ 51 := ⟨_, rfl, by omega, Nat.mod_lt _ (by decide)⟩
  refine S_val (wd x24) (by kernel_rfl) (fun _ _ => fv (v := .int .u64 (IntKind.u64.wrap (((BitVec.ofInt IntKind.u64.bits ((x17 : Nat) : Int)) &&& (BitVec.ofInt IntKind.u64.bits 2251799813685247)).toNat : Int))) ((vint (hx24 ▸ u_and_mask x17 51 (Nat.lt_of_le_of_lt ux17 (by decide)) (by decide)))) (by kernel_rfl)) ?_
  refine S_v (wd x19) ?_
  obtain ⟨x25, hx25, lx25, mx25⟩ : ∃ q, q = x19 % 2 ^ 51 ∧ q < 18446744073709551616 ∧ q < 2 ^ 51 := ⟨_, rfl, by omega, Nat.mod_lt _ (by decide)⟩
  refine S_val (wd x25) (by kernel_rfl) (fun _ _ => fv (v := .int .u64 (IntKind.u64.wrap (((BitVec.ofInt IntKind.u64.bits ((x19 : Nat) : Int)) &&& (BitVec.ofInt IntKind.u64.bits 2251799813685247)).toNat : Int))) ((vint (hx25 ▸ u_and_mask x19 51 (Nat.lt_of_le_of_lt ux19 (by decide)) (by decide)))) (by kernel_rfl)) ?_
  refine S_v (wd x21) ?_
  obtain ⟨x26, hx26, lx26, mx26⟩ : ∃ q, q = x21 % 2 ^ 51 ∧ q < 18446744073709551616 ∧ q < 2 ^ 51 := ⟨_, rfl, by omega, Nat.mod_lt _ (by decide)⟩
  refine S_val (wd x26) (by kernel_rfl) (fun _ _ => fv (v := .int .u64 (IntKind.u64.wrap (((BitVec.ofInt IntKind.u64.bits ((x21 : Nat) : Int)) &&& (BitVec.ofInt IntKind.u64.bits 2251799813685247)).toNat : Int))) ((vint (hx26 ▸ u_and_mask x21 51 (Nat.lt_of_le_of_lt ux21 (by decide)) (by decide)))) (by kernel_rfl)) ?_
  refine S_v (.agg #[wd x22, wd x23, wd x24, wd x25, wd x26]) ?_
  refine S_do (by kernel_rfl) (stN (L' := [⟨b1, [wd x22, wd x23, wd x24, wd x25, wd x26], 31⟩]) [wd x22, wd x23, wd x24, wd x25, wd x26] 0 b1 0 [.int .u64 0, .int .u64 0, .int .u64 0, .int .u64 0, .int .u64 0] 31 rfl (by kernel_rfl) (by kernel_rfl) Tryd.sizeOf31 (by simp [Value.oneCell']) (by kernel_rfl) (by simp) (by kernel_rfl)) ?_
  refine S_nil ?_
  refine E_then ?_
  refine C_ret ?_
  have E := last_law5 h0 h1 h2 h3 h4 hx2 hx3 hx4 hx5 hx6 hx7 hx8 hx9 hx10 hx11 hx12 hx13 hx14 hx15 hx16 hx17 hx18 hx19 hx20 hx21 hx22 hx23 hx24 hx25 hx26
  rw [show (F5.of ((a0 + 2251799813685248 * a1 + 5070602400912917605986812821504 * a2 + 11417981541647679048466287755595961091061972992 * a3 + 25711008708143844408671393477458601640355247900524685364822016 * a4) % pp)).v = _ from F5.join (Nat.le_of_lt_succ mx22) (Nat.le_of_lt_succ mx23) (Nat.le_of_lt_succ mx24) (Nat.le_of_lt_succ mx25) (Nat.le_of_lt_succ mx26) E]
  exact pure_ret rfl (resC Tryd.results74 [wd x22, wd x23, wd x24, wd x25, wd x26] 0 b1 31 (by kernel_rfl) Tryd.isAgg31 Tryd.sizeOf31 (by kernel_rfl))
theorem c_closed (a0 a1 a2 a3 a4 : Nat) (h0 : a0 ≤ 1152921504606846976) (h1 : a1 ≤ 1152921504606846976) (h2 : a2 ≤ 1152921504606846976) (h3 : a3 ≤ 1152921504606846976) (h4 : a4 ≤ 1152921504606846976) : Pure Tryd.prog 61 #[wd a0, wd a1, wd a2, wd a3, wd a4] ((F5.of ((a0 + 2251799813685248 * a1 + 5070602400912917605986812821504 * a2 + 11417981541647679048466287755595961091061972992 * a3 + 25711008708143844408671393477458601640355247900524685364822016 * a4) % pp)).v) := by
  refine pure_of Tryd.func61 rfl (fun w0 => ?_)
  refine C_seq ?_
  refine C_region ?_
  refine S_newv (fun nb0 => pt nb0 0) [.int .u64 0, .int .u64 0, .int .u64 0, .int .u64 0, .int .u64 0] 31 (by kernel_rfl) (fun w _ => by kernel_rfl) ?_
  intro b1 hb1 Hb1
  refine S_nil ?_
  refine E_then ?_
  refine C_seq ?_
  refine C_region ?_
  refine S_v (wd a1) ?_
  refine S_v (wd a0) ?_
  obtain ⟨x2, hx2, ux2⟩ : ∃ q, q = a0 / 2 ^ 51 ∧ q ≤ 512 := ⟨_, rfl, Nat.le_trans (Nat.div_le_div_right h0) (by decide)⟩
  refine S_val (wd x2) (by kernel_rfl) (fun _ _ => fv (v := .int .u64 (((a0 : Nat) : Int).fdiv (2 ^ 51))) ((vint (hx2 ▸ u_shr a0 51))) (by kernel_rfl)) ?_
  obtain ⟨x3, hx3, ux3⟩ : ∃ q, q = a1 + x2 ∧ q ≤ 1152921504606847488 := ⟨_, rfl, Nat.add_le_add h1 ux2⟩
  refine S_val (wd x3) (by kernel_rfl) (fun _ _ => fv (v := .int .u64 (IntKind.u64.wrap (((a1 : Nat) : Int) + ((x2 : Nat) : Int)))) ((vint (hx3 ▸ u_add_lt a1 x2 1152921504606847488 (hx3 ▸ ux3) (by decide)))) (by kernel_rfl)) ?_
  refine S_v (wd x3) ?_
  refine S_nil ?_
  refine E_then ?_
  refine C_seq ?_
  refine C_region ?_
  refine S_v (wd a2) ?_
  refine S_v (wd x3) ?_
  obtain ⟨x4, hx4, ux4⟩ : ∃ q, q = x3 / 2 ^ 51 ∧ q ≤ 512 := ⟨_, rfl, Nat.le_trans (Nat.div_le_div_right ux3) (by decide)⟩
  refine S_val (wd x4) (by kernel_rfl) (fun _ _ => fv (v := .int .u64 (((x3 : Nat) : Int).fdiv (2 ^ 51))) ((vint (hx4 ▸ u_shr x3 51))) (by kernel_rfl)) ?_
  obtain ⟨x5, hx5, ux5⟩ : ∃ q, q = a2 + x4 ∧ q ≤ 1152921504606847488 := ⟨_, rfl, Nat.add_le_add h2 ux4⟩
  refine S_val (wd x5) (by kernel_rfl) (fun _ _ => fv (v := .int .u64 (IntKind.u64.wrap (((a2 : Nat) : Int) + ((x4 : Nat) : Int)))) ((vint (hx5 ▸ u_add_lt a2 x4 1152921504606847488 (hx5 ▸ ux5) (by decide)))) (by kernel_rfl)) ?_
  refine S_v (wd x5) ?_
  refine S_nil ?_
  refine E_then ?_
  refine C_seq ?_
  refine C_region ?_
  refine S_v (wd a3) ?_
  refine S_v (wd x5) ?_
  obtain ⟨x6, hx6, ux6⟩ : ∃ q, q = x5 / 2 ^ 51 ∧ q ≤ 512 := ⟨_, rfl, Nat.le_trans (Nat.div_le_div_right ux5) (by decide)⟩
  refine S_val (wd x6) (by kernel_rfl) (fun _ _ => fv (v := .int .u64 (((x5 : Nat) : Int).fdiv (2 ^ 51))) ((vint (hx6 ▸ u_shr x5 51))) (by kernel_rfl)) ?_
  obtain ⟨x7, hx7, ux7⟩ : ∃ q, q = a3 + x6 ∧ q ≤ 1152921504606847488 := ⟨_, rfl, Nat.add_le_add h3 ux6⟩
  refine S_val (wd x7) (by kernel_rfl) (fun _ _ => fv (v := .int .u64 (IntKind.u64.wrap (((a3 : Nat) : Int) + ((x6 : Nat) : Int)))) ((vint (hx7 ▸ u_add_lt a3 x6 1152921504606847488 (hx7 ▸ ux7) (by decide)))) (by kernel_rfl)) ?_
  refine S_v (wd x7) ?_
  refine S_nil ?_
  refine E_then ?_
  refine C_seq ?_
  refine C_region ?_
  refine S_v (wd a4) ?_
  refine S_v (wd x7) ?_
  obtain ⟨x8, hx8, ux8⟩ : ∃ q, q = x7 / 2 ^ 51 ∧ q ≤ 512 := ⟨_, rfl, Nat.le_trans (Nat.div_le_div_right ux7) (by decide)⟩
  refine S_val (wd x8) (by kernel_rfl) (fun _ _ => fv (v := .int .u64 (((x7 : Nat) : Int).fdiv (2 ^ 51))) ((vint (hx8 ▸ u_shr x7 51))) (by kernel_rfl)) ?_
  obtain ⟨x9, hx9, ux9⟩ : ∃ q, q = a4 + x8 ∧ q ≤ 1152921504606847488 := ⟨_, rfl, Nat.add_le_add h4 ux8⟩
  refine S_val (wd x9) (by kernel_rfl) (fun _ _ => fv (v := .int .u64 (IntKind.u64.wrap (((a4 : Nat) : Int) + ((x8 : Nat) : Int)))) ((vint (hx9 ▸ u_add_lt a4 x8 1152921504606847488 (hx9 ▸ ux9) (by decide)))) (by kernel_rfl)) ?_
  refine S_v (wd x9) ?_
  refine S_nil ?_
  refine E_then ?_
  refine C_seq ?_
  refine C_region ?_
  refine S_v (wd a0) ?_
  obtain ⟨x10, hx10, lx10, mx10⟩ : ∃ q, q = a0 % 2 ^ 51 ∧ q < 18446744073709551616 ∧ q < 2 ^ 51 := ⟨_, rfl, by omega, Nat.mod_lt _ (by decide)⟩
  refine S_val (wd x10) (by kernel_rfl) (fun _ _ => fv (v := .int .u64 (IntKind.u64.wrap (((BitVec.ofInt IntKind.u64.bits ((a0 : Nat) : Int)) &&& (BitVec.ofInt IntKind.u64.bits 2251799813685247)).toNat : Int))) ((vint (hx10 ▸ u_and_mask a0 51 (Nat.lt_of_le_of_lt h0 (by decide)) (by decide)))) (by kernel_rfl)) ?_
  refine S_v (wd x9) ?_
  obtain ⟨x11, hx11, ux11⟩ : ∃ q, q = x9 / 2 ^ 51 ∧ q ≤ 512 := ⟨_, rfl, Nat.le_trans (Nat.div_le_div_right ux9) (by decide)⟩
  refine S_val (wd x11) (by kernel_rfl) (fun _ _ => fv (v := .int .u64 (((x9 : Nat) : Int).fdiv (2 ^ 51))) ((vint (hx11 ▸ u_shr x9 51))) (by kernel_rfl)) ?_
  obtain ⟨x12, hx12, ux12⟩ : ∃ q, q = 19 * x11 ∧ q ≤ 9728 := ⟨_, rfl, Nat.mul_le_mul (Nat.le_refl 19) ux11⟩
  refine S_val (wd x12) (by kernel_rfl) (fun _ _ => fv (v := .int .u64 (IntKind.u64.wrap (19 * ((x11 : Nat) : Int)))) ((vint (hx12 ▸ u_mul_lt 19 x11 9728 (hx12 ▸ ux12) (by decide)))) (by kernel_rfl)) ?_
  obtain ⟨x13, hx13, ux13⟩ : ∃ q, q = x10 + x12 ∧ q ≤ 2251799813694975 := ⟨_, rfl, Nat.add_le_add (Nat.le_of_lt_succ mx10) ux12⟩
  refine S_val (wd x13) (by kernel_rfl) (fun _ _ => fv (v := .int .u64 (IntKind.u64.wrap (((x10 : Nat) : Int) + ((x12 : Nat) : Int)))) ((vint (hx13 ▸ u_add_lt x10 x12 2251799813694975 (hx13 ▸ ux13) (by decide)))) (by kernel_rfl)) ?_
  refine S_v (wd x13) ?_
  refine S_nil ?_
  refine E_then ?_
  refine C_seq ?_
  refine C_region ?_
  refine S_v (wd x9) ?_
  obtain ⟨x14, hx14, lx14, mx14⟩ : ∃ q, q = x9 % 2 ^ 51 ∧ q < 18446744073709551616 ∧ q < 2 ^ 51 := ⟨_, rfl, by omega, Nat.mod_lt _ (by decide)⟩
  refine S_val (wd x14) (by kernel_rfl) (fun _ _ => fv (v := .int .u64 (IntKind.u64.wrap (((BitVec.ofInt IntKind.u64.bits ((x9 : Nat) : Int)) &&& (BitVec.ofInt IntKind.u64.bits 2251799813685247)).toNat : Int))) ((vint (hx14 ▸ u_and_mask x9 51 (Nat.lt_of_le_of_lt ux9 (by decide)) (by decide)))) (by kernel_rfl)) ?_
  refine S_v (wd x14) ?_
  refine S_nil ?_
  refine E_then ?_
  refine C_seq ?_
  refine C_seq ?_
  by_cases hA : x13 ≤ 2251799813685247
  · by_cases hB : x14 = 2251799813685247
    · refine C_region ?_
      refine S_v (wd x13) ?_
      refine S_val (.bool true) (by kernel_rfl) (fun _ _ => fv (v := .bool (decide (((x13 : Nat) : Int) ≤ 2251799813685247))) (vbool (decide_eq_true (by omega))) (by kernel_rfl)) ?_
      refine S_v (.bool true) ?_
      refine S_v (wd x14) ?_
      refine S_val (.bool false) (by kernel_rfl) (fun _ _ => fv (v := .bool (((x14 : Nat) : Int) != 2251799813685247)) (vbool (bne_eq_false_iff_eq.2 (by omega))) (by kernel_rfl)) ?_
      refine S_v (.bool false) ?_
      refine S_nil ?_
      refine E_then ?_
      refine C_false (by kernel_rfl) ?_
      refine C_skip ?_
      refine E_then ?_
      refine C_seq ?_
      refine C_region ?_
      refine S_v (wd x13) ?_
      refine S_v (wd x3) ?_
      obtain ⟨x15, hx15, lx15, mx15⟩ : ∃ q, q = x3 % 2 ^ 51 ∧ q < 18446744073709551616 ∧ q < 2 ^ 51 := ⟨_, rfl, by omega, Nat.mod_lt _ (by decide)⟩
      refine S_val (wd x15) (by kernel_rfl) (fun _ _ => fv (v := .int .u64 (IntKind.u64.wrap (((BitVec.ofInt IntKind.u64.bits ((x3 : Nat) : Int)) &&& (BitVec.ofInt IntKind.u64.bits 2251799813685247)).toNat : Int))) ((vint (hx15 ▸ u_and_mask x3 51 (Nat.lt_of_le_of_lt ux3 (by decide)) (by decide)))) (by kernel_rfl)) ?_
      refine S_v (wd x5) ?_
      obtain ⟨x16, hx16, lx16, mx16⟩ : ∃ q, q = x5 % 2 ^ 51 ∧ q < 18446744073709551616 ∧ q < 2 ^ 51 := ⟨_, rfl, by omega, Nat.mod_lt _ (by decide)⟩
      refine S_val (wd x16) (by kernel_rfl) (fun _ _ => fv (v := .int .u64 (IntKind.u64.wrap (((BitVec.ofInt IntKind.u64.bits ((x5 : Nat) : Int)) &&& (BitVec.ofInt IntKind.u64.bits 2251799813685247)).toNat : Int))) ((vint (hx16 ▸ u_and_mask x5 51 (Nat.lt_of_le_of_lt ux5 (by decide)) (by decide)))) (by kernel_rfl)) ?_
      refine S_v (wd x7) ?_
      obtain ⟨x17, hx17, lx17, mx17⟩ : ∃ q, q = x7 % 2 ^ 51 ∧ q < 18446744073709551616 ∧ q < 2 ^ 51 := ⟨_, rfl, by omega, Nat.mod_lt _ (by decide)⟩
      refine S_val (wd x17) (by kernel_rfl) (fun _ _ => fv (v := .int .u64 (IntKind.u64.wrap (((BitVec.ofInt IntKind.u64.bits ((x7 : Nat) : Int)) &&& (BitVec.ofInt IntKind.u64.bits 2251799813685247)).toNat : Int))) ((vint (hx17 ▸ u_and_mask x7 51 (Nat.lt_of_le_of_lt ux7 (by decide)) (by decide)))) (by kernel_rfl)) ?_
      refine S_v (wd x14) ?_
      refine S_pure (v := F5.v (F5.of ((x13 + 2251799813685248 * x15 + 5070602400912917605986812821504 * x16 + 11417981541647679048466287755595961091061972992 * x17 + 25711008708143844408671393477458601640355247900524685364822016 * x14) % pp))) (by kernel_rfl) (c_last x13 x15 x16 x17 x14 (Nat.le_trans ux13 (by decide)) (Nat.le_trans (Nat.le_of_lt_succ mx15) (by decide)) (Nat.le_trans (Nat.le_of_lt_succ mx16) (by decide)) (Nat.le_trans (Nat.le_of_lt_succ mx17) (by decide)) (Nat.le_trans (Nat.le_of_lt_succ mx14) (by decide))) (fun _ => by kernel_rfl) ?_
      refine S_do (by kernel_rfl) (stN (L' := [⟨b1, [wd ((F5.of ((x13 + 2251799813685248 * x15 + 5070602400912917605986812821504 * x16 + 11417981541647679048466287755595961091061972992 * x17 + 25711008708143844408671393477458601640355247900524685364822016 * x14) % pp)).l0), wd ((F5.of ((x13 + 2251799813685248 * x15 + 5070602400912917605986812821504 * x16 + 11417981541647679048466287755595961091061972992 * x17 + 25711008708143844408671393477458601640355247900524685364822016 * x14) % pp)).l1), wd ((F5.of ((x13 + 2251799813685248 * x15 + 5070602400912917605986812821504 * x16 + 11417981541647679048466287755595961091061972992 * x17 + 25711008708143844408671393477458601640355247900524685364822016 * x14) % pp)).l2), wd ((F5.of ((x13 + 2251799813685248 * x15 + 5070602400912917605986812821504 * x16 + 11417981541647679048466287755595961091061972992 * x17 + 25711008708143844408671393477458601640355247900524685364822016 * x14) % pp)).l3), wd ((F5.of ((x13 + 2251799813685248 * x15 + 5070602400912917605986812821504 * x16 + 11417981541647679048466287755595961091061972992 * x17 + 25711008708143844408671393477458601640355247900524685364822016 * x14) % pp)).l4)], 31⟩]) [wd ((F5.of ((x13 + 2251799813685248 * x15 + 5070602400912917605986812821504 * x16 + 11417981541647679048466287755595961091061972992 * x17 + 25711008708143844408671393477458601640355247900524685364822016 * x14) % pp)).l0), wd ((F5.of ((x13 + 2251799813685248 * x15 + 5070602400912917605986812821504 * x16 + 11417981541647679048466287755595961091061972992 * x17 + 25711008708143844408671393477458601640355247900524685364822016 * x14) % pp)).l1), wd ((F5.of ((x13 + 2251799813685248 * x15 + 5070602400912917605986812821504 * x16 + 11417981541647679048466287755595961091061972992 * x17 + 25711008708143844408671393477458601640355247900524685364822016 * x14) % pp)).l2), wd ((F5.of ((x13 + 2251799813685248 * x15 + 5070602400912917605986812821504 * x16 + 11417981541647679048466287755595961091061972992 * x17 + 25711008708143844408671393477458601640355247900524685364822016 * x14) % pp)).l3), wd ((F5.of ((x13 + 2251799813685248 * x15 + 5070602400912917605986812821504 * x16 + 11417981541647679048466287755595961091061972992 * x17 + 25711008708143844408671393477458601640355247900524685364822016 * x14) % pp)).l4)] 0 b1 0 [.int .u64 0, .int .u64 0, .int .u64 0, .int .u64 0, .int .u64 0] 31 rfl (by kernel_rfl) (by kernel_rfl) Tryd.sizeOf31 (by simp [Value.oneCell']) (by kernel_rfl) (by simp) (by kernel_rfl)) ?_
      refine S_nil ?_
      refine E_then ?_
      refine C_ret ?_
      rw [show (a0 + 2251799813685248 * a1 + 5070602400912917605986812821504 * a2 + 11417981541647679048466287755595961091061972992 * a3 + 25711008708143844408671393477458601640355247900524685364822016 * a4) % pp = _ from closed_law hx2 hx3 hx4 hx5 hx6 hx7 hx8 hx9 hx10 hx11 hx12 hx13 hx14 hx15 hx16 hx17]
      exact pure_ret rfl (resC Tryd.results61 [wd ((F5.of ((x13 + 2251799813685248 * x15 + 5070602400912917605986812821504 * x16 + 11417981541647679048466287755595961091061972992 * x17 + 25711008708143844408671393477458601640355247900524685364822016 * x14) % pp)).l0), wd ((F5.of ((x13 + 2251799813685248 * x15 + 5070602400912917605986812821504 * x16 + 11417981541647679048466287755595961091061972992 * x17 + 25711008708143844408671393477458601640355247900524685364822016 * x14) % pp)).l1), wd ((F5.of ((x13 + 2251799813685248 * x15 + 5070602400912917605986812821504 * x16 + 11417981541647679048466287755595961091061972992 * x17 + 25711008708143844408671393477458601640355247900524685364822016 * x14) % pp)).l2), wd ((F5.of ((x13 + 2251799813685248 * x15 + 5070602400912917605986812821504 * x16 + 11417981541647679048466287755595961091061972992 * x17 + 25711008708143844408671393477458601640355247900524685364822016 * x14) % pp)).l3), wd ((F5.of ((x13 + 2251799813685248 * x15 + 5070602400912917605986812821504 * x16 + 11417981541647679048466287755595961091061972992 * x17 + 25711008708143844408671393477458601640355247900524685364822016 * x14) % pp)).l4)] 0 b1 31 (by kernel_rfl) Tryd.isAgg31 Tryd.sizeOf31 (by kernel_rfl))
    · refine C_region ?_
      refine S_v (wd x13) ?_
      refine S_val (.bool true) (by kernel_rfl) (fun _ _ => fv (v := .bool (decide (((x13 : Nat) : Int) ≤ 2251799813685247))) (vbool (decide_eq_true (by omega))) (by kernel_rfl)) ?_
      refine S_v (.bool true) ?_
      refine S_v (wd x14) ?_
      refine S_val (.bool true) (by kernel_rfl) (fun _ _ => fv (v := .bool (((x14 : Nat) : Int) != 2251799813685247)) (vbool (bne_iff_ne.2 (by omega))) (by kernel_rfl)) ?_
      refine S_v (.bool true) ?_
      refine S_nil ?_
      refine E_then ?_
      refine C_true (by kernel_rfl) ?_
      refine C_seq ?_
      refine C_region ?_
      refine S_v (wd x13) ?_
      refine S_v (wd x3) ?_
      obtain ⟨x18, hx18, lx18, mx18⟩ : ∃ q, q = x3 % 2 ^ 51 ∧ q < 18446744073709551616 ∧ q < 2 ^ 51 := ⟨_, rfl, by omega, Nat.mod_lt _ (by decide)⟩
      refine S_val (wd x18) (by kernel_rfl) (fun _ _ => fv (v := .int .u64 (IntKind.u64.wrap (((BitVec.ofInt IntKind.u64.bits ((x3 : Nat) : Int)) &&& (BitVec.ofInt IntKind.u64.bits 2251799813685247)).toNat : Int))) ((vint (hx18 ▸ u_and_mask x3 51 (Nat.lt_of_le_of_lt ux3 (by decide)) (by decide)))) (by kernel_rfl)) ?_
      refine S_v (wd x5) ?_
      obtain ⟨x19, hx19, lx19, mx19⟩ : ∃ q, q = x5 % 2 ^ 51 ∧ q < 18446744073709551616 ∧ q < 2 ^ 51 := ⟨_, rfl, by omega, Nat.mod_lt _ (by decide)⟩
      refine S_val (wd x19) (by kernel_rfl) (fun _ _ => fv (v := .int .u64 (IntKind.u64.wrap (((BitVec.ofInt IntKind.u64.bits ((x5 : Nat) : Int)) &&& (BitVec.ofInt IntKind.u64.bits 2251799813685247)).toNat : Int))) ((vint (hx19 ▸ u_and_mask x5 51 (Nat.lt_of_le_of_lt ux5 (by decide)) (by decide)))) (by kernel_rfl)) ?_
      refine S_v (wd x7) ?_
      obtain ⟨x20, hx20, lx20, mx20⟩ : ∃ q, q = x7 % 2 ^ 51 ∧ q < 18446744073709551616 ∧ q < 2 ^ 51 := ⟨_, rfl, by omega, Nat.mod_lt _ (by decide)⟩
      refine S_val (wd x20) (by kernel_rfl) (fun _ _ => fv (v := .int .u64 (IntKind.u64.wrap (((BitVec.ofInt IntKind.u64.bits ((x7 : Nat) : Int)) &&& (BitVec.ofInt IntKind.u64.bits 2251799813685247)).toNat : Int))) ((vint (hx20 ▸ u_and_mask x7 51 (Nat.lt_of_le_of_lt ux7 (by decide)) (by decide)))) (by kernel_rfl)) ?_
      refine S_v (wd x14) ?_
      refine S_v (.agg #[wd x13, wd x18, wd x19, wd x20, wd x14]) ?_
      refine S_do (by kernel_rfl) (stN (L' := [⟨b1, [wd x13, wd x18, wd x19, wd x20, wd x14], 31⟩]) [wd x13, wd x18, wd x19, wd x20, wd x14] 0 b1 0 [.int .u64 0, .int .u64 0, .int .u64 0, .int .u64 0, .int .u64 0] 31 rfl (by kernel_rfl) (by kernel_rfl) Tryd.sizeOf31 (by simp [Value.oneCell']) (by kernel_rfl) (by simp) (by kernel_rfl)) ?_
      refine S_nil ?_
      refine E_then ?_
      refine C_ret ?_
      refine E_pass_ret ?_
      have E1 := closed_law hx2 hx3 hx4 hx5 hx6 hx7 hx8 hx9 hx10 hx11 hx12 hx13 hx14 hx18 hx19 hx20
      have E2 := closed_small hA (Nat.le_of_lt_succ mx18) (Nat.le_of_lt_succ mx19) (Nat.le_of_lt_succ mx20) (Nat.le_of_lt_succ mx14) hB
      rw [show (F5.of ((a0 + 2251799813685248 * a1 + 5070602400912917605986812821504 * a2 + 11417981541647679048466287755595961091061972992 * a3 + 25711008708143844408671393477458601640355247900524685364822016 * a4) % pp)).v = _ from F5.join hA (Nat.le_of_lt_succ mx18) (Nat.le_of_lt_succ mx19) (Nat.le_of_lt_succ mx20) (Nat.le_of_lt_succ mx14) (E2.trans E1.symm)]
      exact pure_ret rfl (resC Tryd.results61 [wd x13, wd x18, wd x19, wd x20, wd x14] 0 b1 31 (by kernel_rfl) Tryd.isAgg31 Tryd.sizeOf31 (by kernel_rfl))
  · refine C_region ?_
    refine S_v (wd x13) ?_
    refine S_val (.bool false) (by kernel_rfl) (fun _ _ => fv (v := .bool (decide (((x13 : Nat) : Int) ≤ 2251799813685247))) (vbool (decide_eq_false (by omega))) (by kernel_rfl)) ?_
    refine S_v (.bool false) ?_
    refine S_not (by kernel_rfl) ?_
    refine S_not (by kernel_rfl) ?_
    refine S_v (.bool false) ?_
    refine S_nil ?_
    refine E_then ?_
    refine C_false (by kernel_rfl) ?_
    refine C_skip ?_
    refine E_then ?_
    refine C_seq ?_
    refine C_region ?_
    refine S_v (wd x13) ?_
    refine S_v (wd x3) ?_
    obtain ⟨x21, hx21, lx21, mx21⟩ : ∃ q, q = x3 % 2 ^ 51 ∧ q < 18446744073709551616 ∧ q < 2 ^ 51 := ⟨_, rfl, by omega, Nat.mod_lt _ (by decide)⟩
    refine S_val (wd x21) (by kernel_rfl) (fun _ _ => fv (v := .int .u64 (IntKind.u64.wrap (((BitVec.ofInt IntKind.u64.bits ((x3 : Nat) : Int)) &&& (BitVec.ofInt IntKind.u64.bits 2251799813685247)).toNat : Int))) ((vint (hx21 ▸ u_and_mask x3 51 (Nat.lt_of_le_of_lt ux3 (by decide)) (by decide)))) (by kernel_rfl)) ?_
    refine S_v (wd x5) ?_
    obtain ⟨x22, hx22, lx22, mx22⟩ : ∃ q, q = x5 % 2 ^ 51 ∧ q < 18446744073709551616 ∧ q < 2 ^ 51 := ⟨_, rfl, by omega, Nat.mod_lt _ (by decide)⟩
    refine S_val (wd x22) (by kernel_rfl) (fun _ _ => fv (v := .int .u64 (IntKind.u64.wrap (((BitVec.ofInt IntKind.u64.bits ((x5 : Nat) : Int)) &&& (BitVec.ofInt IntKind.u64.bits 2251799813685247)).toNat : Int))) ((vint (hx22 ▸ u_and_mask x5 51 (Nat.lt_of_le_of_lt ux5 (by decide)) (by decide)))) (by kernel_rfl)) ?_
    refine S_v (wd x7) ?_
    obtain ⟨x23, hx23, lx23, mx23⟩ : ∃ q, q = x7 % 2 ^ 51 ∧ q < 18446744073709551616 ∧ q < 2 ^ 51 := ⟨_, rfl, by omega, Nat.mod_lt _ (by decide)⟩
    refine S_val (wd x23) (by kernel_rfl) (fun _ _ => fv (v := .int .u64 (IntKind.u64.wrap (((BitVec.ofInt IntKind.u64.bits ((x7 : Nat) : Int)) &&& (BitVec.ofInt IntKind.u64.bits 2251799813685247)).toNat : Int))) ((vint (hx23 ▸ u_and_mask x7 51 (Nat.lt_of_le_of_lt ux7 (by decide)) (by decide)))) (by kernel_rfl)) ?_
    refine S_v (wd x14) ?_
    refine S_pure (v := F5.v (F5.of ((x13 + 2251799813685248 * x21 + 5070602400912917605986812821504 * x22 + 11417981541647679048466287755595961091061972992 * x23 + 25711008708143844408671393477458601640355247900524685364822016 * x14) % pp))) (by kernel_rfl) (c_last x13 x21 x22 x23 x14 (Nat.le_trans ux13 (by decide)) (Nat.le_trans (Nat.le_of_lt_succ mx21) (by decide)) (Nat.le_trans (Nat.le_of_lt_succ mx22) (by decide)) (Nat.le_trans (Nat.le_of_lt_succ mx23) (by decide)) (Nat.le_trans (Nat.le_of_lt_succ mx14) (by decide))) (fun _ => by kernel_rfl) ?_
    refine S_do (by kernel_rfl) (stN (L' := [⟨b1, [wd ((F5.of ((x13 + 2251799813685248 * x21 + 5070602400912917605986812821504 * x22 + 11417981541647679048466287755595961091061972992 * x23 + 25711008708143844408671393477458601640355247900524685364822016 * x14) % pp)).l0), wd ((F5.of ((x13 + 2251799813685248 * x21 + 5070602400912917605986812821504 * x22 + 11417981541647679048466287755595961091061972992 * x23 + 25711008708143844408671393477458601640355247900524685364822016 * x14) % pp)).l1), wd ((F5.of ((x13 + 2251799813685248 * x21 + 5070602400912917605986812821504 * x22 + 11417981541647679048466287755595961091061972992 * x23 + 25711008708143844408671393477458601640355247900524685364822016 * x14) % pp)).l2), wd ((F5.of ((x13 + 2251799813685248 * x21 + 5070602400912917605986812821504 * x22 + 11417981541647679048466287755595961091061972992 * x23 + 25711008708143844408671393477458601640355247900524685364822016 * x14) % pp)).l3), wd ((F5.of ((x13 + 2251799813685248 * x21 + 5070602400912917605986812821504 * x22 + 11417981541647679048466287755595961091061972992 * x23 + 25711008708143844408671393477458601640355247900524685364822016 * x14) % pp)).l4)], 31⟩]) [wd ((F5.of ((x13 + 2251799813685248 * x21 + 5070602400912917605986812821504 * x22 + 11417981541647679048466287755595961091061972992 * x23 + 25711008708143844408671393477458601640355247900524685364822016 * x14) % pp)).l0), wd ((F5.of ((x13 + 2251799813685248 * x21 + 5070602400912917605986812821504 * x22 + 11417981541647679048466287755595961091061972992 * x23 + 25711008708143844408671393477458601640355247900524685364822016 * x14) % pp)).l1), wd ((F5.of ((x13 + 2251799813685248 * x21 + 5070602400912917605986812821504 * x22 + 11417981541647679048466287755595961091061972992 * x23 + 25711008708143844408671393477458601640355247900524685364822016 * x14) % pp)).l2), wd ((F5.of ((x13 + 2251799813685248 * x21 + 5070602400912917605986812821504 * x22 + 11417981541647679048466287755595961091061972992 * x23 + 25711008708143844408671393477458601640355247900524685364822016 * x14) % pp)).l3), wd ((F5.of ((x13 + 2251799813685248 * x21 + 5070602400912917605986812821504 * x22 + 11417981541647679048466287755595961091061972992 * x23 + 25711008708143844408671393477458601640355247900524685364822016 * x14) % pp)).l4)] 0 b1 0 [.int .u64 0, .int .u64 0, .int .u64 0, .int .u64 0, .int .u64 0] 31 rfl (by kernel_rfl) (by kernel_rfl) Tryd.sizeOf31 (by simp [Value.oneCell']) (by kernel_rfl) (by simp) (by kernel_rfl)) ?_
    refine S_nil ?_
    refine E_then ?_
    refine C_ret ?_
    rw [show (a0 + 2251799813685248 * a1 + 5070602400912917605986812821504 * a2 + 11417981541647679048466287755595961091061972992 * a3 + 25711008708143844408671393477458601640355247900524685364822016 * a4) % pp = _ from closed_law hx2 hx3 hx4 hx5 hx6 hx7 hx8 hx9 hx10 hx11 hx12 hx13 hx14 hx21 hx22 hx23]
    exact pure_ret rfl (resC Tryd.results61 [wd ((F5.of ((x13 + 2251799813685248 * x21 + 5070602400912917605986812821504 * x22 + 11417981541647679048466287755595961091061972992 * x23 + 25711008708143844408671393477458601640355247900524685364822016 * x14) % pp)).l0), wd ((F5.of ((x13 + 2251799813685248 * x21 + 5070602400912917605986812821504 * x22 + 11417981541647679048466287755595961091061972992 * x23 + 25711008708143844408671393477458601640355247900524685364822016 * x14) % pp)).l1), wd ((F5.of ((x13 + 2251799813685248 * x21 + 5070602400912917605986812821504 * x22 + 11417981541647679048466287755595961091061972992 * x23 + 25711008708143844408671393477458601640355247900524685364822016 * x14) % pp)).l2), wd ((F5.of ((x13 + 2251799813685248 * x21 + 5070602400912917605986812821504 * x22 + 11417981541647679048466287755595961091061972992 * x23 + 25711008708143844408671393477458601640355247900524685364822016 * x14) % pp)).l3), wd ((F5.of ((x13 + 2251799813685248 * x21 + 5070602400912917605986812821504 * x22 + 11417981541647679048466287755595961091061972992 * x23 + 25711008708143844408671393477458601640355247900524685364822016 * x14) % pp)).l4)] 0 b1 31 (by kernel_rfl) Tryd.isAgg31 Tryd.sizeOf31 (by kernel_rfl))
def slimb (x : F5) : Bool := ((((((x.l0 ||| x.l1) ||| x.l2) ||| x.l3) ||| x.l4) / 2 ^ 51 : Nat) : Int) == 0
theorem slimb_iff (x : F5) (hx : x.ok) : slimb x = true ↔ x.slim := by
  unfold slimb
  have key : (((((x.l0 ||| x.l1) ||| x.l2) ||| x.l3) ||| x.l4) / 2 ^ 51 = 0) ↔ (((x.l0 ||| x.l1) ||| x.l2) ||| x.l3) ||| x.l4 < 2 ^ 51 := by omega
  rw [beq_iff_eq]
  constructor
  · intro h
    have h1 := key.1 (by omega)
    have h4 := Nat.lt_of_le_of_lt Nat.right_le_or h1
    have g1 := Nat.lt_of_le_of_lt Nat.left_le_or h1
    have h3 := Nat.lt_of_le_of_lt Nat.right_le_or g1
    have g2 := Nat.lt_of_le_of_lt Nat.left_le_or g1
    have h2 := Nat.lt_of_le_of_lt Nat.right_le_or g2
    have g3 := Nat.lt_of_le_of_lt Nat.left_le_or g2
    have h1 := Nat.lt_of_le_of_lt Nat.right_le_or g3
    have h0 := Nat.lt_of_le_of_lt Nat.left_le_or g3
    exact ⟨by omega, by omega, by omega, by omega, by omega⟩
  · rintro ⟨h0, h1, h2, h3, h4⟩
    have := key.2 (Nat.or_lt_two_pow (Nat.or_lt_two_pow (Nat.or_lt_two_pow (Nat.or_lt_two_pow (by omega) (by omega)) (by omega)) (by omega)) (by omega))
    omega
theorem slimb_t {x : F5} (h : x.slim) : slimb x = true := (slimb_iff x h.ok).2 h
theorem slimb_f {x : F5} (hx : x.ok) (h : ¬ x.slim) : slimb x = false := by
  cases hb : slimb x with
  | false => rfl
  | true => exact absurd ((slimb_iff x hx).1 hb) h
theorem c_slim (x : F5) (hx : x.ok) : Pure Tryd.prog 36 #[F5.v x] (.bool (slimb x)) := by
  refine pure_of Tryd.func36 rfl (fun w0 => ?_)
  refine C_seq ?_
  refine C_region ?_
  refine S_newv (fun nb0 => pt nb0 0) [wd x.l0, wd x.l1, wd x.l2, wd x.l3, wd x.l4] 31 (by kernel_rfl) (fun w _ => by kernel_rfl) ?_
  intro b1 hb1 Hb1
  refine S_v (.bool false) ?_
  refine S_nil ?_
  refine E_then ?_
  refine C_seq ?_
  refine C_region ?_
  refine S_v (pt b1 0) ?_
  refine S_val (wd x.l0) (by kernel_rfl) (ld1 0 b1 0 [wd x.l0, wd x.l1, wd x.l2, wd x.l3, wd x.l4] 31 rfl (by kernel_rfl) Tryd.isAgg29 (by kernel_rfl) (by kernel_rfl)) ?_
  refine S_v (pt b1 1) ?_
  refine S_val (wd x.l1) (by kernel_rfl) (ld1 0 b1 1 [wd x.l0, wd x.l1, wd x.l2, wd x.l3, wd x.l4] 31 rfl (by kernel_rfl) Tryd.isAgg29 (by kernel_rfl) (by kernel_rfl)) ?_
  obtain ⟨x2, hx2⟩ : ∃ q, q = x.l0 ||| x.l1 := ⟨_, rfl⟩
  have lx2 : x2 < 18446744073709551616 := by rw [hx2]; exact u_or_lt x.l0 x.l1 hx.l0 hx.l1
  refine S_val (wd x2) (by kernel_rfl) (fun _ _ => fv (v := .int .u64 (IntKind.u64.wrap (((BitVec.ofInt IntKind.u64.bits ((x.l0 : Nat) : Int)) ||| (BitVec.ofInt IntKind.u64.bits ((x.l1 : Nat) : Int))).toNat : Int))) ((vint (hx2 ▸ u_or x.l0 x.l1 hx.l0 hx.l1))) (by kernel_rfl)) ?_
  refine S_v (pt b1 2) ?_
  refine S_val (wd x.l2) (by kernel_rfl) (ld1 0 b1 2 [wd x.l0, wd x.l1, wd x.l2, wd x.l3, wd x.l4] 31 rfl (by kernel_rfl) Tryd.isAgg29 (by kernel_rfl) (by kernel_rfl)) ?_
  obtain ⟨x3, hx3⟩ : ∃ q, q = x2 ||| x.l2 := ⟨_, rfl⟩
  have lx3 : x3 < 18446744073709551616 := by rw [hx3]; exact u_or_lt x2 x.l2 lx2 hx.l2
  refine S_val (wd x3) (by kernel_rfl) (fun _ _ => fv (v := .int .u64 (IntKind.u64.wrap (((BitVec.ofInt IntKind.u64.bits ((x2 : Nat) : Int)) ||| (BitVec.ofInt IntKind.u64.bits ((x.l2 : Nat) : Int))).toNat : Int))) ((vint (hx3 ▸ u_or x2 x.l2 lx2 hx.l2))) (by kernel_rfl)) ?_
  refine S_v (pt b1 3) ?_
  refine S_val (wd x.l3) (by kernel_rfl) (ld1 0 b1 3 [wd x.l0, wd x.l1, wd x.l2, wd x.l3, wd x.l4] 31 rfl (by kernel_rfl) Tryd.isAgg29 (by kernel_rfl) (by kernel_rfl)) ?_
  obtain ⟨x4, hx4⟩ : ∃ q, q = x3 ||| x.l3 := ⟨_, rfl⟩
  have lx4 : x4 < 18446744073709551616 := by rw [hx4]; exact u_or_lt x3 x.l3 lx3 hx.l3
  refine S_val (wd x4) (by kernel_rfl) (fun _ _ => fv (v := .int .u64 (IntKind.u64.wrap (((BitVec.ofInt IntKind.u64.bits ((x3 : Nat) : Int)) ||| (BitVec.ofInt IntKind.u64.bits ((x.l3 : Nat) : Int))).toNat : Int))) ((vint (hx4 ▸ u_or x3 x.l3 lx3 hx.l3))) (by kernel_rfl)) ?_
  refine S_v (pt b1 4) ?_
  refine S_val (wd x.l4) (by kernel_rfl) (ld1 0 b1 4 [wd x.l0, wd x.l1, wd x.l2, wd x.l3, wd x.l4] 31 rfl (by kernel_rfl) Tryd.isAgg29 (by kernel_rfl) (by kernel_rfl)) ?_
  obtain ⟨x5, hx5⟩ : ∃ q, q = x4 ||| x.l4 := ⟨_, rfl⟩
  have lx5 : x5 < 18446744073709551616 := by rw [hx5]; exact u_or_lt x4 x.l4 lx4 hx.l4
  refine S_val (wd x5) (by kernel_rfl) (fun _ _ => fv (v := .int .u64 (IntKind.u64.wrap (((BitVec.ofInt IntKind.u64.bits ((x4 : Nat) : Int)) ||| (BitVec.ofInt IntKind.u64.bits ((x.l4 : Nat) : Int))).toNat : Int))) ((vint (hx5 ▸ u_or x4 x.l4 lx4 hx.l4))) (by kernel_rfl)) ?_
  obtain ⟨x6, hx6⟩ : ∃ q, q = x5 / 2 ^ 51 := ⟨_, rfl⟩
  have lx6 : x6 < 18446744073709551616 := by rw [hx6]; exact Nat.lt_of_le_of_lt (Nat.div_le_self _ _) lx5
  refine S_val (wd x6) (by kernel_rfl) (fun _ _ => fv (v := .int .u64 (((x5 : Nat) : Int).fdiv (2 ^ 51))) ((vint (hx6 ▸ u_shr x5 51))) (by kernel_rfl)) ?_
  refine S_v (.bool (((x6 : Nat) : Int) == 0)) ?_
  refine S_v (.bool (((x6 : Nat) : Int) == 0)) ?_
  refine S_nil ?_
  refine E_then ?_
  refine C_ret ?_
  simp only [hx2, hx3, hx4, hx5, hx6]
  exact pure_ret rfl (res1 Tryd.results36 (by kernel_rfl))
theorem c_slim_t (x : F5) (h : x.slim) : Pure Tryd.prog 36 #[x.v] (.bool true) := slimb_t h ▸ c_slim x h.ok
theorem c_slim_f (x : F5) (hx : x.ok) (h : ¬ x.slim) : Pure Tryd.prog 36 #[x.v] (.bool false) := slimb_f hx h ▸ c_slim x hx
theorem c_dplus (n a b : Nat) (hn : n + a * b < 340282366920938463463374607431768211456) (ha : a < 18446744073709551616) (hb : b < 18446744073709551616) : Pure Tryd.prog 37 #[dv n, wd a, wd b] (dv (n + a * b)) := by
  refine pure_of Tryd.func37 rfl (fun w0 => ?_)
  refine C_seq ?_
  refine C_region ?_
  refine S_newv (fun nb0 => pt nb0 0) [wd (hD n), wd (lD n)] 79 (by kernel_rfl) (fun w _ => by kernel_rfl) ?_
  intro b1 hb1 Hb1
  refine S_newv (fun nb0 => pt nb0 0) [.int .u64 0, .int .u64 0] 79 (by kernel_rfl) (fun w _ => by kernel_rfl) ?_
  intro b2 hb2 Hb2
  refine S_nil ?_
  refine E_then ?_
  refine C_seq ?_
  refine C_region ?_
  refine S_v (wd a) ?_
  refine S_v (wd b) ?_
  obtain ⟨x3, x4, hx3, hx4, lx3, lx4, px3⟩ := mul64_ex a b ha hb
  refine S_pure (v := .tuple #[wd x3, wd x4]) (by kernel_rfl) px3 (fun _ => by kernel_rfl) ?_
  refine S_v (.tuple #[wd x3, wd x4]) ?_
  refine S_v (wd x3) ?_
  refine S_v (wd x4) ?_
  refine S_v (wd x3) ?_
  refine S_v (wd x4) ?_
  refine S_nil ?_
  refine E_then ?_
  refine C_seq ?_
  refine C_region ?_
  refine S_v (pt b1 1) ?_
  refine S_val (wd (lD n)) (by kernel_rfl) (ld1 1 b1 1 [wd (hD n), wd (lD n)] 79 rfl (by kernel_rfl) Tryd.isAgg29 (by kernel_rfl) (by kernel_rfl)) ?_
  refine S_v (wd x4) ?_
  obtain ⟨x5, k6, ex5, lx5, ok6, hx5, hk6⟩ := addc_ex (lD n) x4 0 (lD_lt _) lx4 (by decide)
  refine S_val (.tuple #[wd x5, wd k6]) (by kernel_rfl) (fun w _ => fv (v := .tuple #[wd (((lD n) + x4 + 0) % 18446744073709551616), wd (((lD n) + x4 + 0) / 18446744073709551616)]) (by rw [hx5, hk6]) ((clv (x := .func 52) rfl (by kernel_rfl) (by kernel_rfl) (by kernel_rfl) (x_add (lD n) x4 0 (by decide))) w)) ?_
  refine S_v (.tuple #[wd x5, wd k6]) ?_
  refine S_v (wd x5) ?_
  refine S_v (wd k6) ?_
  refine S_v (wd x5) ?_
  refine S_v (wd k6) ?_
  refine S_nil ?_
  refine E_then ?_
  refine C_seq ?_
  refine C_region ?_
  refine S_v (pt b1 0) ?_
  refine S_val (wd (hD n)) (by kernel_rfl) (ld1 1 b1 0 [wd (hD n), wd (lD n)] 79 rfl (by kernel_rfl) Tryd.isAgg29 (by kernel_rfl) (by kernel_rfl)) ?_
  refine S_v (wd x3) ?_
  refine S_v (wd k6) ?_
  obtain ⟨x7, k8, ex7, lx7, ok8, hx7, hk8⟩ := addc_ex (hD n) x3 k6 (hD_lt (Nat.lt_of_le_of_lt (Nat.le_add_right _ _) hn)) lx3 ok6
  refine S_val (.tuple #[wd x7, wd k8]) (by kernel_rfl) (fun w _ => fv (v := .tuple #[wd (((hD n) + x3 + k6) % 18446744073709551616), wd (((hD n) + x3 + k6) / 18446744073709551616)]) (by rw [hx7, hk8]) ((clv (x := .func 52) rfl (by kernel_rfl) (by kernel_rfl) (by kernel_rfl) (x_add (hD n) x3 k6 ok6)) w)) ?_
  refine S_v (.tuple #[wd x7, wd k8]) ?_
  refine S_v (wd x7) ?_
  refine S_v (wd k8) ?_
  refine S_v (wd x7) ?_
  refine S_nil ?_
  refine E_then ?_
  refine C_seq ?_
  refine C_region ?_
  refine S_v (wd x7) ?_
  refine S_v (wd x5) ?_
  refine S_v (.agg #[wd x7, wd x5]) ?_
  refine S_do (by kernel_rfl) (stN (L' := [⟨b2, [wd x7, wd x5], 79⟩, ⟨b1, [wd (hD n), wd (lD n)], 79⟩]) [wd x7, wd x5] 0 b2 0 [.int .u64 0, .int .u64 0] 79 rfl (by kernel_rfl) (by kernel_rfl) Tryd.sizeOf79 (by simp [Value.oneCell']) (by kernel_rfl) (by simp) (by kernel_rfl)) ?_
  refine S_nil ?_
  refine E_then ?_
  refine C_ret ?_
  have q : x5 = lD (n + a * b) ∧ x7 = hD (n + a * b) := by unfold lD hD at *; generalize a * b = A at *; omega
  rw [show dv (n + a * b) = _ from by unfold dv; rw [← q.1, ← q.2]]
  exact pure_ret rfl (resC Tryd.results37 [wd x7, wd x5] 0 b2 79 (by kernel_rfl) Tryd.isAgg79 Tryd.sizeOf79 (by kernel_rfl))
theorem dplus_ex (n a b N A B K : Nat) (hn : n ≤ N) (ha : a ≤ A) (hb : b ≤ B) (hK : N + A * B ≤ K) (hK2 : K < 340282366920938463463374607431768211456) (hA : A < 18446744073709551616) (hB : B < 18446744073709551616) : ∃ d, d = n + a * b ∧ d ≤ K ∧ Pure Tryd.prog 37 #[dv n, wd a, wd b] (dv d) := by
  have h : n + a * b ≤ K := Nat.le_trans (Nat.add_le_add hn (Nat.mul_le_mul ha hb)) hK
  exact ⟨_, rfl, h, c_dplus n a b (Nat.lt_of_le_of_lt h hK2) (Nat.lt_of_le_of_lt ha hA) (Nat.lt_of_le_of_lt hb hB)⟩
theorem c_dover (n : Nat) (hn : n < 41538374868278621028243970633760768) : Pure Tryd.prog 60 #[dv n] (wd (n / 2251799813685248)) := by
  refine pure_of Tryd.func60 rfl (fun w0 => ?_)
  refine C_seq ?_
  refine C_region ?_
  refine S_newv (fun nb0 => pt nb0 0) [wd (hD n), wd (lD n)] 79 (by kernel_rfl) (fun w _ => by kernel_rfl) ?_
  intro b1 hb1 Hb1
  refine S_v (.int .u64 0) ?_
  refine S_nil ?_
  refine E_then ?_
  refine C_seq ?_
  refine C_region ?_
  refine S_v (pt b1 0) ?_
  refine S_val (wd (hD n)) (by kernel_rfl) (ld1 0 b1 0 [wd (hD n), wd (lD n)] 79 rfl (by kernel_rfl) Tryd.isAgg29 (by kernel_rfl) (by kernel_rfl)) ?_
  obtain ⟨x2, hx2, lx2⟩ : ∃ q, q = ((hD n) * 2 ^ 13) % 18446744073709551616 ∧ q < 18446744073709551616 := ⟨_, rfl, Nat.mod_lt _ (by decide)⟩
  refine S_val (wd x2) (by kernel_rfl) (fun _ _ => fv (v := .int .u64 (IntKind.u64.wrap (((hD n : Nat) : Int) * 2 ^ 13))) ((vint (hx2 ▸ u_shl (hD n) 13))) (by kernel_rfl)) ?_
  refine S_v (pt b1 1) ?_
  refine S_val (wd (lD n)) (by kernel_rfl) (ld1 0 b1 1 [wd (hD n), wd (lD n)] 79 rfl (by kernel_rfl) Tryd.isAgg29 (by kernel_rfl) (by kernel_rfl)) ?_
  obtain ⟨x3, hx3⟩ : ∃ q, q = (lD n) / 2 ^ 51 := ⟨_, rfl⟩
  have lx3 : x3 < 18446744073709551616 := by rw [hx3]; exact Nat.lt_of_le_of_lt (Nat.div_le_self _ _) (lD_lt _)
  refine S_val (wd x3) (by kernel_rfl) (fun _ _ => fv (v := .int .u64 (((lD n : Nat) : Int).fdiv (2 ^ 51))) ((vint (hx3 ▸ u_shr (lD n) 51))) (by kernel_rfl)) ?_
  obtain ⟨x4, hx4⟩ : ∃ q, q = x2 ||| x3 := ⟨_, rfl⟩
  have lx4 : x4 < 18446744073709551616 := by rw [hx4]; exact u_or_lt x2 x3 lx2 lx3
  refine S_val (wd x4) (by kernel_rfl) (fun _ _ => fv (v := .int .u64 (IntKind.u64.wrap (((BitVec.ofInt IntKind.u64.bits ((x2 : Nat) : Int)) ||| (BitVec.ofInt IntKind.u64.bits ((x3 : Nat) : Int))).toNat : Int))) ((vint (hx4 ▸ u_or x2 x3 lx2 lx3))) (by kernel_rfl)) ?_
  refine S_v (wd x4) ?_
  refine S_nil ?_
  refine E_then ?_
  refine C_ret ?_
  have e1 : x2 = hD n * 2 ^ 13 := by rw [hx2]; exact Nat.mod_eq_of_lt (by unfold hD; omega)
  have e2 : x4 = n / 2251799813685248 := by rw [hx4, e1, or_shl (by rw [hx3]; unfold lD; omega), hx3]; unfold hD lD; omega
  rw [← e2]
  exact pure_ret rfl (res1 Tryd.results60 (by kernel_rfl))
theorem c_carried (d0 d1 d2 d3 d4 : Nat) (h0 : d0 ≤ 10384593717069655257060992658440191) (h1 : d1 ≤ 10384593717069655257060992658440191) (h2 : d2 ≤ 10384593717069655257060992658440191) (h3 : d3 ≤ 10384593717069655257060992658440191) (h4 : d4 ≤ 10384593717069655257060992658440191) : Pure Tryd.prog 38 #[dv d0, dv d1, dv d2, dv d3, dv d4] ((F5.of ((d0 + 2251799813685248 * d1 + 5070602400912917605986812821504 * d2 + 11417981541647679048466287755595961091061972992 * d3 + 25711008708143844408671393477458601640355247900524685364822016 * d4) % pp)).v) := by
  refine pure_of Tryd.func38 rfl (fun w0 => ?_)
  refine C_seq ?_
  refine C_region ?_
  refine S_newv (fun nb0 => pt nb0 0) [wd (hD d0), wd (lD d0)] 79 (by kernel_rfl) (fun w _ => by kernel_rfl) ?_
  intro b101 hb101 Hb101
  refine S_newv (fun nb0 => pt nb0 0) [wd (hD d1), wd (lD d1)] 79 (by kernel_rfl) (fun w _ => by kernel_rfl) ?_
  intro b102 hb102 Hb102
  refine S_newv (fun nb0 => pt nb0 0) [wd (hD d2), wd (lD d2)] 79 (by kernel_rfl) (fun w _ => by kernel_rfl) ?_
  intro b103 hb103 Hb103
  refine S_newv (fun nb0 => pt nb0 0) [wd (hD d3), wd (lD d3)] 79 (by kernel_rfl) (fun w _ => by kernel_rfl) ?_
  intro b104 hb104 Hb104
  refine S_newv (fun nb0 => pt nb0 0) [wd (hD d4), wd (lD d4)] 79 (by kernel_rfl) (fun w _ => by kernel_rfl) ?_
  intro b105 hb105 Hb105
  refine S_newv (fun nb0 => pt nb0 0) [.int .u64 0, .int .u64 0, .int .u64 0, .int .u64 0, .int .u64 0] 31 (by kernel_rfl) (fun w _ => by kernel_rfl) ?_
  intro b106 hb106 Hb106
  refine S_nil ?_
  refine E_then ?_
  refine C_seq ?_
  refine C_drawn [.held, .held, .held, .held, .eff] (by kernel_rfl) (by kernel_rfl) ?_
  refine D_held (dv d1) (by kernel_rfl) (ldN [wd (hD d1), wd (lD d1)] 4 b102 0 [wd (hD d1), wd (lD d1)] 79 rfl (by kernel_rfl) Tryd.isAgg79 Tryd.sizeOf79 (by kernel_rfl) (by kernel_rfl)) ?_
  refine D_held (dv d0) (by kernel_rfl) (ldN [wd (hD d0), wd (lD d0)] 5 b101 0 [wd (hD d0), wd (lD d0)] 79 rfl (by kernel_rfl) Tryd.isAgg79 Tryd.sizeOf79 (by kernel_rfl) (by kernel_rfl)) ?_
  obtain ⟨o107, ho107, uo107⟩ : ∃ q, q = d0 / 2251799813685248 ∧ q ≤ 4611686018427387903 := ⟨_, rfl, Nat.le_trans (Nat.div_le_div_right h0) (by decide)⟩
  refine D_pure (v := wd o107) (by kernel_rfl) (ho107 ▸ c_dover d0 (Nat.lt_of_le_of_lt h0 (by decide))) (fun _ => by kernel_rfl) ?_
  obtain ⟨d108, hd108, ud108, pd108⟩ := dplus_ex d1 o107 1 10384593717069655257060992658440191 4611686018427387903 1 10384593717069659868747011085828094 h1 uo107 (Nat.le_refl 1) (by decide) (by decide) (by decide) (by decide)
  refine D_pure (v := dv d108) (by kernel_rfl) pd108 (fun _ => by kernel_rfl) ?_
  refine D_do (by kernel_rfl) (stN (L' := [⟨b106, [.int .u64 0, .int .u64 0, .int .u64 0, .int .u64 0, .int .u64 0], 31⟩, ⟨b105, [wd (hD d4), wd (lD d4)], 79⟩, ⟨b104, [wd (hD d3), wd (lD d3)], 79⟩, ⟨b103, [wd (hD d2), wd (lD d2)], 79⟩, ⟨b102, [wd (hD d108), wd (lD d108)], 79⟩, ⟨b101, [wd (hD d0), wd (lD d0)], 79⟩]) [wd (hD d108), wd (lD d108)] 4 b102 0 [wd (hD d1), wd (lD d1)] 79 rfl (by kernel_rfl) (by kernel_rfl) Tryd.sizeOf79 (by simp [Value.oneCell']) (by kernel_rfl) (by simp) (by kernel_rfl)) ?_
  refine D_nil ?_
  refine E_then ?_
  refine C_seq ?_
  refine C_drawn [.held, .held, .held, .held, .eff] (by kernel_rfl) (by kernel_rfl) ?_
  refine D_held (dv d2) (by kernel_rfl) (ldN [wd (hD d2), wd (lD d2)] 3 b103 0 [wd (hD d2), wd (lD d2)] 79 rfl (by kernel_rfl) Tryd.isAgg79 Tryd.sizeOf79 (by kernel_rfl) (by kernel_rfl)) ?_
  refine D_held (dv d108) (by kernel_rfl) (ldN [wd (hD d108), wd (lD d108)] 4 b102 0 [wd (hD d108), wd (lD d108)] 79 rfl (by kernel_rfl) Tryd.isAgg79 Tryd.sizeOf79 (by kernel_rfl) (by kernel_rfl)) ?_
  obtain ⟨o109, ho109, uo109⟩ : ∃ q, q = d108 / 2251799813685248 ∧ q ≤ 4611686018427389951 := ⟨_, rfl, Nat.le_trans (Nat.div_le_div_right ud108) (by decide)⟩
  refine D_pure (v := wd o109) (by kernel_rfl) (ho109 ▸ c_dover d108 (Nat.lt_of_le_of_lt ud108 (by decide))) (fun _ => by kernel_rfl) ?_
  obtain ⟨d110, hd110, ud110, pd110⟩ := dplus_ex d2 o109 1 10384593717069655257060992658440191 4611686018427389951 1 10384593717069659868747011085830142 h2 uo109 (Nat.le_refl 1) (by decide) (by decide) (by decide) (by decide)
  refine D_pure (v := dv d110) (by kernel_rfl) pd110 (fun _ => by kernel_rfl) ?_
  refine D_do (by kernel_rfl) (stN (L' := [⟨b106, [.int .u64 0, .int .u64 0, .int .u64 0, .int .u64 0, .int .u64 0], 31⟩, ⟨b105, [wd (hD d4), wd (lD d4)], 79⟩, ⟨b104, [wd (hD d3), wd (lD d3)], 79⟩, ⟨b103, [wd (hD d110), wd (lD d110)], 79⟩, ⟨b102, [wd (hD d108), wd (lD d108)], 79⟩, ⟨b101, [wd (hD d0), wd (lD d0)], 79⟩]) [wd (hD d110), wd (lD d110)] 3 b103 0 [wd (hD d2), wd (lD d2)] 79 rfl (by kernel_rfl) (by kernel_rfl) Tryd.sizeOf79 (by simp [Value.oneCell']) (by kernel_rfl) (by simp) (by kernel_rfl)) ?_
  refine D_nil ?_
  refine E_then ?_
  refine C_seq ?_
  refine C_drawn [.held, .held, .held, .held, .eff] (by kernel_rfl) (by kernel_rfl) ?_
  refine D_held (dv d3) (by kernel_rfl) (ldN [wd (hD d3), wd (lD d3)] 2 b104 0 [wd (hD d3), wd (lD d3)] 79 rfl (by kernel_rfl) Tryd.isAgg79 Tryd.sizeOf79 (by kernel_rfl) (by kernel_rfl)) ?_
  refine D_held (dv d110) (by kernel_rfl) (ldN [wd (hD d110), wd (lD d110)] 3 b103 0 [wd (hD d110), wd (lD d110)] 79 rfl (by kernel_rfl) Tryd.isAgg79 Tryd.sizeOf79 (by kernel_rfl) (by kernel_rfl)) ?_
  obtain ⟨o111, ho111, uo111⟩ : ∃ q, q = d110 / 2251799813685248 ∧ q ≤ 4611686018427389952 := ⟨_, rfl, Nat.le_trans (Nat.div_le_div_right ud110) (by decide)⟩
  refine D_pure (v := wd o111) (by kernel_rfl) (ho111 ▸ c_dover d110 (Nat.lt_of_le_of_lt ud110 (by decide))) (fun _ => by kernel_rfl) ?_
  obtain ⟨d112, hd112, ud112, pd112⟩ := dplus_ex d3 o111 1 10384593717069655257060992658440191 4611686018427389952 1 10384593717069659868747011085830143 h3 uo111 (Nat.le_refl 1) (by decide) (by decide) (by decide) (by decide)
  refine D_pure (v := dv d112) (by kernel_rfl) pd112 (fun _ => by kernel_rfl) ?_
  refine D_do (by kernel_rfl) (stN (L' := [⟨b106, [.int .u64 0, .int .u64 0, .int .u64 0, .int .u64 0, .int .u64 0], 31⟩, ⟨b105, [wd (hD d4), wd (lD d4)], 79⟩, ⟨b104, [wd (hD d112), wd (lD d112)], 79⟩, ⟨b103, [wd (hD d110), wd (lD d110)], 79⟩, ⟨b102, [wd (hD d108), wd (lD d108)], 79⟩, ⟨b101, [wd (hD d0), wd (lD d0)], 79⟩]) [wd (hD d112), wd (lD d112)] 2 b104 0 [wd (hD d3), wd (lD d3)] 79 rfl (by kernel_rfl) (by kernel_rfl) Tryd.sizeOf79 (by simp [Value.oneCell']) (by kernel_rfl) (by simp) (by kernel_rfl)) ?_
  refine D_nil ?_
  refine E_then ?_
  refine C_seq ?_
  refine C_drawn [.held, .held, .held, .held, .eff] (by kernel_rfl) (by kernel_rfl) ?_
  refine D_held (dv d4) (by kernel_rfl) (ldN [wd (hD d4), wd (lD d4)] 1 b105 0 [wd (hD d4), wd (lD d4)] 79 rfl (by kernel_rfl) Tryd.isAgg79 Tryd.sizeOf79 (by kernel_rfl) (by kernel_rfl)) ?_
  refine D_held (dv d112) (by kernel_rfl) (ldN [wd (hD d112), wd (lD d112)] 2 b104 0 [wd (hD d112), wd (lD d112)] 79 rfl (by kernel_rfl) Tryd.isAgg79 Tryd.sizeOf79 (by kernel_rfl) (by kernel_rfl)) ?_
  obtain ⟨o113, ho113, uo113⟩ : ∃ q, q = d112 / 2251799813685248 ∧ q ≤ 4611686018427389952 := ⟨_, rfl, Nat.le_trans (Nat.div_le_div_right ud112) (by decide)⟩
  refine D_pure (v := wd o113) (by kernel_rfl) (ho113 ▸ c_dover d112 (Nat.lt_of_le_of_lt ud112 (by decide))) (fun _ => by kernel_rfl) ?_
  obtain ⟨d114, hd114, ud114, pd114⟩ := dplus_ex d4 o113 1 10384593717069655257060992658440191 4611686018427389952 1 10384593717069659868747011085830143 h4 uo113 (Nat.le_refl 1) (by decide) (by decide) (by decide) (by decide)
  refine D_pure (v := dv d114) (by kernel_rfl) pd114 (fun _ => by kernel_rfl) ?_
  refine D_do (by kernel_rfl) (stN (L' := [⟨b106, [.int .u64 0, .int .u64 0, .int .u64 0, .int .u64 0, .int .u64 0], 31⟩, ⟨b105, [wd (hD d114), wd (lD d114)], 79⟩, ⟨b104, [wd (hD d112), wd (lD d112)], 79⟩, ⟨b103, [wd (hD d110), wd (lD d110)], 79⟩, ⟨b102, [wd (hD d108), wd (lD d108)], 79⟩, ⟨b101, [wd (hD d0), wd (lD d0)], 79⟩]) [wd (hD d114), wd (lD d114)] 1 b105 0 [wd (hD d4), wd (lD d4)] 79 rfl (by kernel_rfl) (by kernel_rfl) Tryd.sizeOf79 (by simp [Value.oneCell']) (by kernel_rfl) (by simp) (by kernel_rfl)) ?_
  refine D_nil ?_
  refine E_then ?_
  refine C_seq ?_
  refine C_drawn [.pure, .held, .pure, .pure, .held, .held, .held, .new, .eff] (by kernel_rfl) (by kernel_rfl) ?_
  refine D_v (pt b101 1) ?_
  refine D_held (wd (lD d0)) (by kernel_rfl) (ld1 5 b101 1 [wd (hD d0), wd (lD d0)] 79 rfl (by kernel_rfl) Tryd.isAgg29 (by kernel_rfl) (by kernel_rfl)) ?_
  obtain ⟨x115, hx115, lx115, mx115⟩ : ∃ q, q = (lD d0) % 2 ^ 51 ∧ q < 18446744073709551616 ∧ q < 2 ^ 51 := ⟨_, rfl, by omega, Nat.mod_lt _ (by decide)⟩
  refine D_val (wd x115) (by kernel_rfl) (fun _ => fv (v := .int .u64 (IntKind.u64.wrap (((BitVec.ofInt IntKind.u64.bits ((lD d0 : Nat) : Int)) &&& (BitVec.ofInt IntKind.u64.bits 2251799813685247)).toNat : Int))) ((vint (hx115 ▸ u_and_mask (lD d0) 51 (lD_lt _) (by decide)))) (by kernel_rfl)) ?_
  refine D_v (.agg #[.int .u64 0, wd x115]) ?_
  refine D_held (dv d114) (by kernel_rfl) (ldN [wd (hD d114), wd (lD d114)] 1 b105 0 [wd (hD d114), wd (lD d114)] 79 rfl (by kernel_rfl) Tryd.isAgg79 Tryd.sizeOf79 (by kernel_rfl) (by kernel_rfl)) ?_
  obtain ⟨o116, ho116, uo116⟩ : ∃ q, q = d114 / 2251799813685248 ∧ q ≤ 4611686018427389952 := ⟨_, rfl, Nat.le_trans (Nat.div_le_div_right ud114) (by decide)⟩
  refine D_pure (v := wd o116) (by kernel_rfl) (ho116 ▸ c_dover d114 (Nat.lt_of_le_of_lt ud114 (by decide))) (fun _ => by kernel_rfl) ?_
  obtain ⟨d117, hd117, ud117, pd117⟩ := dplus_ex x115 o116 19 2251799813685247 4611686018427389952 19 87624286149934094335 (Nat.le_of_lt_succ mx115) uo116 (Nat.le_refl 19) (by decide) (by decide) (by decide) (by decide)
  rw [dv_small x115 lx115] at pd117
  refine D_pure (v := dv d117) (by kernel_rfl) pd117 (fun _ => by kernel_rfl) ?_
  refine D_fresh (fun nb0 => pt nb0 0) [.int .u64 0, .int .u64 0] 79 (by kernel_rfl) (fun w _ => by kernel_rfl) ?_
  intro b118 hb118 Hb118
  refine D_do (by kernel_rfl) (stN (L' := [⟨b118, [wd (hD d117), wd (lD d117)], 79⟩, ⟨b106, [.int .u64 0, .int .u64 0, .int .u64 0, .int .u64 0, .int .u64 0], 31⟩, ⟨b105, [wd (hD d114), wd (lD d114)], 79⟩, ⟨b104, [wd (hD d112), wd (lD d112)], 79⟩, ⟨b103, [wd (hD d110), wd (lD d110)], 79⟩, ⟨b102, [wd (hD d108), wd (lD d108)], 79⟩, ⟨b101, [wd (hD d0), wd (lD d0)], 79⟩]) [wd (hD d117), wd (lD d117)] 0 b118 0 [.int .u64 0, .int .u64 0] 79 rfl (by kernel_rfl) (by kernel_rfl) Tryd.sizeOf79 (by simp [Value.oneCell']) (by kernel_rfl) (by simp) (by kernel_rfl)) ?_
  refine D_nil ?_
  refine E_then ?_
  refine C_seq ?_
  refine C_drawn [.pure, .held, .pure, .pure, .held, .pure, .held, .held, .pure, .pure, .held, .pure, .pure, .held, .pure, .pure, .held, .pure, .held, .eff] (by kernel_rfl) (by kernel_rfl) ?_
  refine D_v (pt b118 1) ?_
  refine D_held (wd (lD d117)) (by kernel_rfl) (ld1 0 b118 1 [wd (hD d117), wd (lD d117)] 79 rfl (by kernel_rfl) Tryd.isAgg29 (by kernel_rfl) (by kernel_rfl)) ?_
  obtain ⟨x119, hx119, lx119, mx119⟩ : ∃ q, q = (lD d117) % 2 ^ 51 ∧ q < 18446744073709551616 ∧ q < 2 ^ 51 := ⟨_, rfl, by omega, Nat.mod_lt _ (by decide)⟩
  refine D_val (wd x119) (by kernel_rfl) (fun _ => fv (v := .int .u64 (IntKind.u64.wrap (((BitVec.ofInt IntKind.u64.bits ((lD d117 : Nat) : Int)) &&& (BitVec.ofInt IntKind.u64.bits 2251799813685247)).toNat : Int))) ((vint (hx119 ▸ u_and_mask (lD d117) 51 (lD_lt _) (by decide)))) (by kernel_rfl)) ?_
  refine D_v (pt b102 1) ?_
  refine D_held (wd (lD d108)) (by kernel_rfl) (ld1 5 b102 1 [wd (hD d108), wd (lD d108)] 79 rfl (by kernel_rfl) Tryd.isAgg29 (by kernel_rfl) (by kernel_rfl)) ?_
  obtain ⟨x120, hx120, lx120, mx120⟩ : ∃ q, q = (lD d108) % 2 ^ 51 ∧ q < 18446744073709551616 ∧ q < 2 ^ 51 := ⟨_, rfl, by omega, Nat.mod_lt _ (by decide)⟩
  refine D_val (wd x120) (by kernel_rfl) (fun _ => fv (v := .int .u64 (IntKind.u64.wrap (((BitVec.ofInt IntKind.u64.bits ((lD d108 : Nat) : Int)) &&& (BitVec.ofInt IntKind.u64.bits 2251799813685247)).toNat : Int))) ((vint (hx120 ▸ u_and_mask (lD d108) 51 (lD_lt _) (by decide)))) (by kernel_rfl)) ?_
  refine D_held (dv d117) (by kernel_rfl) (ldN [wd (hD d117), wd (lD d117)] 0 b118 0 [wd (hD d117), wd (lD d117)] 79 rfl (by kernel_rfl) Tryd.isAgg79 Tryd.sizeOf79 (by kernel_rfl) (by kernel_rfl)) ?_
  obtain ⟨o121, ho121, uo121⟩ : ∃ q, q = d117 / 2251799813685248 ∧ q ≤ 38913 := ⟨_, rfl, Nat.le_trans (Nat.div_le_div_right ud117) (by decide)⟩
  refine D_pure (v := wd o121) (by kernel_rfl) (ho121 ▸ c_dover d117 (Nat.lt_of_le_of_lt ud117 (by decide))) (fun _ => by kernel_rfl) ?_
  obtain ⟨x122, hx122, ux122⟩ : ∃ q, q = x120 + o121 ∧ q ≤ 2251799813724160 := ⟨_, rfl, Nat.add_le_add (Nat.le_of_lt_succ mx120) uo121⟩
  refine D_val (wd x122) (by kernel_rfl) (fun _ => fv (v := .int .u64 (IntKind.u64.wrap (((x120 : Nat) : Int) + ((o121 : Nat) : Int)))) ((vint (hx122 ▸ u_add_lt x120 o121 2251799813724160 (hx122 ▸ ux122) (by decide)))) (by kernel_rfl)) ?_
  refine D_v (pt b103 1) ?_
  refine D_held (wd (lD d110)) (by kernel_rfl) (ld1 4 b103 1 [wd (hD d110), wd (lD d110)] 79 rfl (by kernel_rfl) Tryd.isAgg29 (by kernel_rfl) (by kernel_rfl)) ?_
  obtain ⟨x123, hx123, lx123, mx123⟩ : ∃ q, q = (lD d110) % 2 ^ 51 ∧ q < 18446744073709551616 ∧ q < 2 ^ 51 := ⟨_, rfl, by omega, Nat.mod_lt _ (by decide)⟩
  refine D_val (wd x123) (by kernel_rfl) (fun _ => fv (v := .int .u64 (IntKind.u64.wrap (((BitVec.ofInt IntKind.u64.bits ((lD d110 : Nat) : Int)) &&& (BitVec.ofInt IntKind.u64.bits 2251799813685247)).toNat : Int))) ((vint (hx123 ▸ u_and_mask (lD d110) 51 (lD_lt _) (by decide)))) (by kernel_rfl)) ?_
  refine D_v (pt b104 1) ?_
  refine D_held (wd (lD d112)) (by kernel_rfl) (ld1 3 b104 1 [wd (hD d112), wd (lD d112)] 79 rfl (by kernel_rfl) Tryd.isAgg29 (by kernel_rfl) (by kernel_rfl)) ?_
  obtain ⟨x124, hx124, lx124, mx124⟩ : ∃ q, q = (lD d112) % 2 ^ 51 ∧ q < 18446744073709551616 ∧ q < 2 ^ 51 := ⟨_, rfl, by omega, Nat.mod_lt _ (by decide)⟩
  refine D_val (wd x124) (by kernel_rfl) (fun _ => fv (v := .int .u64 (IntKind.u64.wrap (((BitVec.ofInt IntKind.u64.bits ((lD d112 : Nat) : Int)) &&& (BitVec.ofInt IntKind.u64.bits 2251799813685247)).toNat : Int))) ((vint (hx124 ▸ u_and_mask (lD d112) 51 (lD_lt _) (by decide)))) (by kernel_rfl)) ?_
  refine D_v (pt b105 1) ?_
  refine D_held (wd (lD d114)) (by kernel_rfl) (ld1 2 b105 1 [wd (hD d114), wd (lD d114)] 79 rfl (by kernel_rfl) Tryd.isAgg29 (by kernel_rfl) (by kernel_rfl)) ?_
  obtain ⟨x125, hx125, lx125, mx125⟩ : ∃ q, q = (lD d114) % 2 ^ 51 ∧ q < 18446744073709551616 ∧ q < 2 ^ 51 := ⟨_, rfl, by omega, Nat.mod_lt _ (by decide)⟩
  refine D_val (wd x125) (by kernel_rfl) (fun _ => fv (v := .int .u64 (IntKind.u64.wrap (((BitVec.ofInt IntKind.u64.bits ((lD d114 : Nat) : Int)) &&& (BitVec.ofInt IntKind.u64.bits 2251799813685247)).toNat : Int))) ((vint (hx125 ▸ u_and_mask (lD d114) 51 (lD_lt _) (by decide)))) (by kernel_rfl)) ?_
  refine D_pure (v := F5.v (F5.of ((x119 + 2251799813685248 * x122 + 5070602400912917605986812821504 * x123 + 11417981541647679048466287755595961091061972992 * x124 + 25711008708143844408671393477458601640355247900524685364822016 * x125) % pp))) (by kernel_rfl) (c_closed x119 x122 x123 x124 x125 (Nat.le_trans (Nat.le_of_lt_succ mx119) (by decide)) (Nat.le_trans ux122 (by decide)) (Nat.le_trans (Nat.le_of_lt_succ mx123) (by decide)) (Nat.le_trans (Nat.le_of_lt_succ mx124) (by decide)) (Nat.le_trans (Nat.le_of_lt_succ mx125) (by decide))) (fun _ => by kernel_rfl) ?_
  refine D_do (by kernel_rfl) (stN (L' := [⟨b118, [wd (hD d117), wd (lD d117)], 79⟩, ⟨b106, [wd ((F5.of ((x119 + 2251799813685248 * x122 + 5070602400912917605986812821504 * x123 + 11417981541647679048466287755595961091061972992 * x124 + 25711008708143844408671393477458601640355247900524685364822016 * x125) % pp)).l0), wd ((F5.of ((x119 + 2251799813685248 * x122 + 5070602400912917605986812821504 * x123 + 11417981541647679048466287755595961091061972992 * x124 + 25711008708143844408671393477458601640355247900524685364822016 * x125) % pp)).l1), wd ((F5.of ((x119 + 2251799813685248 * x122 + 5070602400912917605986812821504 * x123 + 11417981541647679048466287755595961091061972992 * x124 + 25711008708143844408671393477458601640355247900524685364822016 * x125) % pp)).l2), wd ((F5.of ((x119 + 2251799813685248 * x122 + 5070602400912917605986812821504 * x123 + 11417981541647679048466287755595961091061972992 * x124 + 25711008708143844408671393477458601640355247900524685364822016 * x125) % pp)).l3), wd ((F5.of ((x119 + 2251799813685248 * x122 + 5070602400912917605986812821504 * x123 + 11417981541647679048466287755595961091061972992 * x124 + 25711008708143844408671393477458601640355247900524685364822016 * x125) % pp)).l4)], 31⟩, ⟨b105, [wd (hD d114), wd (lD d114)], 79⟩, ⟨b104, [wd (hD d112), wd (lD d112)], 79⟩, ⟨b103, [wd (hD d110), wd (lD d110)], 79⟩, ⟨b102, [wd (hD d108), wd (lD d108)], 79⟩, ⟨b101, [wd (hD d0), wd (lD d0)], 79⟩]) [wd ((F5.of ((x119 + 2251799813685248 * x122 + 5070602400912917605986812821504 * x123 + 11417981541647679048466287755595961091061972992 * x124 + 25711008708143844408671393477458601640355247900524685364822016 * x125) % pp)).l0), wd ((F5.of ((x119 + 2251799813685248 * x122 + 5070602400912917605986812821504 * x123 + 11417981541647679048466287755595961091061972992 * x124 + 25711008708143844408671393477458601640355247900524685364822016 * x125) % pp)).l1), wd ((F5.of ((x119 + 2251799813685248 * x122 + 5070602400912917605986812821504 * x123 + 11417981541647679048466287755595961091061972992 * x124 + 25711008708143844408671393477458601640355247900524685364822016 * x125) % pp)).l2), wd ((F5.of ((x119 + 2251799813685248 * x122 + 5070602400912917605986812821504 * x123 + 11417981541647679048466287755595961091061972992 * x124 + 25711008708143844408671393477458601640355247900524685364822016 * x125) % pp)).l3), wd ((F5.of ((x119 + 2251799813685248 * x122 + 5070602400912917605986812821504 * x123 + 11417981541647679048466287755595961091061972992 * x124 + 25711008708143844408671393477458601640355247900524685364822016 * x125) % pp)).l4)] 1 b106 0 [.int .u64 0, .int .u64 0, .int .u64 0, .int .u64 0, .int .u64 0] 31 rfl (by kernel_rfl) (by kernel_rfl) Tryd.sizeOf31 (by simp [Value.oneCell']) (by kernel_rfl) (by simp) (by kernel_rfl)) ?_
  refine D_nil ?_
  refine E_then ?_
  refine C_ret ?_
  rw [show (d0 + 2251799813685248 * d1 + 5070602400912917605986812821504 * d2 + 11417981541647679048466287755595961091061972992 * d3 + 25711008708143844408671393477458601640355247900524685364822016 * d4) % pp = _ from carried_law ho107 hd108 ho109 hd110 ho111 hd112 ho113 hd114 hx115 ho116 hd117 hx119 hx120 ho121 hx122 hx123 hx124 hx125]
  exact pure_ret rfl (resC Tryd.results38 [wd ((F5.of ((x119 + 2251799813685248 * x122 + 5070602400912917605986812821504 * x123 + 11417981541647679048466287755595961091061972992 * x124 + 25711008708143844408671393477458601640355247900524685364822016 * x125) % pp)).l0), wd ((F5.of ((x119 + 2251799813685248 * x122 + 5070602400912917605986812821504 * x123 + 11417981541647679048466287755595961091061972992 * x124 + 25711008708143844408671393477458601640355247900524685364822016 * x125) % pp)).l1), wd ((F5.of ((x119 + 2251799813685248 * x122 + 5070602400912917605986812821504 * x123 + 11417981541647679048466287755595961091061972992 * x124 + 25711008708143844408671393477458601640355247900524685364822016 * x125) % pp)).l2), wd ((F5.of ((x119 + 2251799813685248 * x122 + 5070602400912917605986812821504 * x123 + 11417981541647679048466287755595961091061972992 * x124 + 25711008708143844408671393477458601640355247900524685364822016 * x125) % pp)).l3), wd ((F5.of ((x119 + 2251799813685248 * x122 + 5070602400912917605986812821504 * x123 + 11417981541647679048466287755595961091061972992 * x124 + 25711008708143844408671393477458601640355247900524685364822016 * x125) % pp)).l4)] 1 b106 31 (by kernel_rfl) Tryd.isAgg31 Tryd.sizeOf31 (by kernel_rfl))
theorem c_fadd_ss (x y : F5) (hx : x.ok) (hy : y.ok) (sx : x.slim) (sy : y.slim) : Pure Tryd.prog 65 #[F5.v x, F5.v y] ((F5.of ((x.val + y.val) % pp)).v) := by
  refine pure_of Tryd.func65 rfl (fun w0 => ?_)
  refine C_seq ?_
  refine C_region ?_
  refine S_newv (fun nb0 => pt nb0 0) [wd x.l0, wd x.l1, wd x.l2, wd x.l3, wd x.l4] 31 (by kernel_rfl) (fun w _ => by kernel_rfl) ?_
  intro b1 hb1 Hb1
  refine S_newv (fun nb0 => pt nb0 0) [wd y.l0, wd y.l1, wd y.l2, wd y.l3, wd y.l4] 31 (by kernel_rfl) (fun w _ => by kernel_rfl) ?_
  intro b2 hb2 Hb2
  refine S_newv (fun nb0 => pt nb0 0) [.int .u64 0, .int .u64 0, .int .u64 0, .int .u64 0, .int .u64 0] 31 (by kernel_rfl) (fun w _ => by kernel_rfl) ?_
  intro b3 hb3 Hb3
  refine S_nil ?_
  refine E_then ?_
  refine C_seq ?_
  refine C_seq ?_
  refine C_region ?_
  refine S_val (F5.v x) (by kernel_rfl) (ldN [wd x.l0, wd x.l1, wd x.l2, wd x.l3, wd x.l4] 2 b1 0 [wd x.l0, wd x.l1, wd x.l2, wd x.l3, wd x.l4] 31 rfl (by kernel_rfl) Tryd.isAgg31 Tryd.sizeOf31 (by kernel_rfl) (by kernel_rfl)) ?_
  refine S_pure (v := .bool true) (by kernel_rfl) (c_slim_t x sx) (fun _ => by kernel_rfl) ?_
  refine S_v (.bool false) ?_
  refine S_v (.bool false) ?_
  refine S_val (F5.v y) (by kernel_rfl) (ldN [wd y.l0, wd y.l1, wd y.l2, wd y.l3, wd y.l4] 1 b2 0 [wd y.l0, wd y.l1, wd y.l2, wd y.l3, wd y.l4] 31 rfl (by kernel_rfl) Tryd.isAgg31 Tryd.sizeOf31 (by kernel_rfl) (by kernel_rfl)) ?_
  refine S_pure (v := .bool true) (by kernel_rfl) (c_slim_t y sy) (fun _ => by kernel_rfl) ?_
  refine S_v (.bool false) ?_
  refine S_v (.bool false) ?_
  refine S_nil ?_
  refine E_then ?_
  refine C_false (by kernel_rfl) ?_
  refine C_skip ?_
  refine E_then ?_
  refine C_seq ?_
  refine C_region ?_
  refine S_v (pt b1 0) ?_
  refine S_val (wd x.l0) (by kernel_rfl) (ld1 2 b1 0 [wd x.l0, wd x.l1, wd x.l2, wd x.l3, wd x.l4] 31 rfl (by kernel_rfl) Tryd.isAgg29 (by kernel_rfl) (by kernel_rfl)) ?_
  refine S_v (pt b2 0) ?_
  refine S_val (wd y.l0) (by kernel_rfl) (ld1 1 b2 0 [wd y.l0, wd y.l1, wd y.l2, wd y.l3, wd y.l4] 31 rfl (by kernel_rfl) Tryd.isAgg29 (by kernel_rfl) (by kernel_rfl)) ?_
  obtain ⟨x4, hx4, ux4⟩ : ∃ q, q = x.l0 + y.l0 ∧ q ≤ 4503599627370494 := ⟨_, rfl, Nat.add_le_add sx.l0 sy.l0⟩
  refine S_val (wd x4) (by kernel_rfl) (fun _ _ => fv (v := .int .u64 (IntKind.u64.wrap (((x.l0 : Nat) : Int) + ((y.l0 : Nat) : Int)))) ((vint (hx4 ▸ u_add_lt x.l0 y.l0 4503599627370494 (hx4 ▸ ux4) (by decide)))) (by kernel_rfl)) ?_
  refine S_v (pt b1 1) ?_
  refine S_val (wd x.l1) (by kernel_rfl) (ld1 2 b1 1 [wd x.l0, wd x.l1, wd x.l2, wd x.l3, wd x.l4] 31 rfl (by kernel_rfl) Tryd.isAgg29 (by kernel_rfl) (by kernel_rfl)) ?_
  refine S_v (pt b2 1) ?_
  refine S_val (wd y.l1) (by kernel_rfl) (ld1 1 b2 1 [wd y.l0, wd y.l1, wd y.l2, wd y.l3, wd y.l4] 31 rfl (by kernel_rfl) Tryd.isAgg29 (by kernel_rfl) (by kernel_rfl)) ?_
  obtain ⟨x5, hx5, ux5⟩ : ∃ q, q = x.l1 + y.l1 ∧ q ≤ 4503599627370494 := ⟨_, rfl, Nat.add_le_add sx.l1 sy.l1⟩
  refine S_val (wd x5) (by kernel_rfl) (fun _ _ => fv (v := .int .u64 (IntKind.u64.wrap (((x.l1 : Nat) : Int) + ((y.l1 : Nat) : Int)))) ((vint (hx5 ▸ u_add_lt x.l1 y.l1 4503599627370494 (hx5 ▸ ux5) (by decide)))) (by kernel_rfl)) ?_
  refine S_v (pt b1 2) ?_
  refine S_val (wd x.l2) (by kernel_rfl) (ld1 2 b1 2 [wd x.l0, wd x.l1, wd x.l2, wd x.l3, wd x.l4] 31 rfl (by kernel_rfl) Tryd.isAgg29 (by kernel_rfl) (by kernel_rfl)) ?_
  refine S_v (pt b2 2) ?_
  refine S_val (wd y.l2) (by kernel_rfl) (ld1 1 b2 2 [wd y.l0, wd y.l1, wd y.l2, wd y.l3, wd y.l4] 31 rfl (by kernel_rfl) Tryd.isAgg29 (by kernel_rfl) (by kernel_rfl)) ?_
  obtain ⟨x6, hx6, ux6⟩ : ∃ q, q = x.l2 + y.l2 ∧ q ≤ 4503599627370494 := ⟨_, rfl, Nat.add_le_add sx.l2 sy.l2⟩
  refine S_val (wd x6) (by kernel_rfl) (fun _ _ => fv (v := .int .u64 (IntKind.u64.wrap (((x.l2 : Nat) : Int) + ((y.l2 : Nat) : Int)))) ((vint (hx6 ▸ u_add_lt x.l2 y.l2 4503599627370494 (hx6 ▸ ux6) (by decide)))) (by kernel_rfl)) ?_
  refine S_v (pt b1 3) ?_
  refine S_val (wd x.l3) (by kernel_rfl) (ld1 2 b1 3 [wd x.l0, wd x.l1, wd x.l2, wd x.l3, wd x.l4] 31 rfl (by kernel_rfl) Tryd.isAgg29 (by kernel_rfl) (by kernel_rfl)) ?_
  refine S_v (pt b2 3) ?_
  refine S_val (wd y.l3) (by kernel_rfl) (ld1 1 b2 3 [wd y.l0, wd y.l1, wd y.l2, wd y.l3, wd y.l4] 31 rfl (by kernel_rfl) Tryd.isAgg29 (by kernel_rfl) (by kernel_rfl)) ?_
  obtain ⟨x7, hx7, ux7⟩ : ∃ q, q = x.l3 + y.l3 ∧ q ≤ 4503599627370494 := ⟨_, rfl, Nat.add_le_add sx.l3 sy.l3⟩
  refine S_val (wd x7) (by kernel_rfl) (fun _ _ => fv (v := .int .u64 (IntKind.u64.wrap (((x.l3 : Nat) : Int) + ((y.l3 : Nat) : Int)))) ((vint (hx7 ▸ u_add_lt x.l3 y.l3 4503599627370494 (hx7 ▸ ux7) (by decide)))) (by kernel_rfl)) ?_
  refine S_v (pt b1 4) ?_
  refine S_val (wd x.l4) (by kernel_rfl) (ld1 2 b1 4 [wd x.l0, wd x.l1, wd x.l2, wd x.l3, wd x.l4] 31 rfl (by kernel_rfl) Tryd.isAgg29 (by kernel_rfl) (by kernel_rfl)) ?_
  refine S_v (pt b2 4) ?_
  refine S_val (wd y.l4) (by kernel_rfl) (ld1 1 b2 4 [wd y.l0, wd y.l1, wd y.l2, wd y.l3, wd y.l4] 31 rfl (by kernel_rfl) Tryd.isAgg29 (by kernel_rfl) (by kernel_rfl)) ?_
  obtain ⟨x8, hx8, ux8⟩ : ∃ q, q = x.l4 + y.l4 ∧ q ≤ 4503599627370494 := ⟨_, rfl, Nat.add_le_add sx.l4 sy.l4⟩
  refine S_val (wd x8) (by kernel_rfl) (fun _ _ => fv (v := .int .u64 (IntKind.u64.wrap (((x.l4 : Nat) : Int) + ((y.l4 : Nat) : Int)))) ((vint (hx8 ▸ u_add_lt x.l4 y.l4 4503599627370494 (hx8 ▸ ux8) (by decide)))) (by kernel_rfl)) ?_
  refine S_pure (v := F5.v (F5.of ((x4 + 2251799813685248 * x5 + 5070602400912917605986812821504 * x6 + 11417981541647679048466287755595961091061972992 * x7 + 25711008708143844408671393477458601640355247900524685364822016 * x8) % pp))) (by kernel_rfl) (c_closed x4 x5 x6 x7 x8 (Nat.le_trans ux4 (by decide)) (Nat.le_trans ux5 (by decide)) (Nat.le_trans ux6 (by decide)) (Nat.le_trans ux7 (by decide)) (Nat.le_trans ux8 (by decide))) (fun _ => by kernel_rfl) ?_
  refine S_do (by kernel_rfl) (stN (L' := [⟨b3, [wd ((F5.of ((x4 + 2251799813685248 * x5 + 5070602400912917605986812821504 * x6 + 11417981541647679048466287755595961091061972992 * x7 + 25711008708143844408671393477458601640355247900524685364822016 * x8) % pp)).l0), wd ((F5.of ((x4 + 2251799813685248 * x5 + 5070602400912917605986812821504 * x6 + 11417981541647679048466287755595961091061972992 * x7 + 25711008708143844408671393477458601640355247900524685364822016 * x8) % pp)).l1), wd ((F5.of ((x4 + 2251799813685248 * x5 + 5070602400912917605986812821504 * x6 + 11417981541647679048466287755595961091061972992 * x7 + 25711008708143844408671393477458601640355247900524685364822016 * x8) % pp)).l2), wd ((F5.of ((x4 + 2251799813685248 * x5 + 5070602400912917605986812821504 * x6 + 11417981541647679048466287755595961091061972992 * x7 + 25711008708143844408671393477458601640355247900524685364822016 * x8) % pp)).l3), wd ((F5.of ((x4 + 2251799813685248 * x5 + 5070602400912917605986812821504 * x6 + 11417981541647679048466287755595961091061972992 * x7 + 25711008708143844408671393477458601640355247900524685364822016 * x8) % pp)).l4)], 31⟩, ⟨b2, [wd y.l0, wd y.l1, wd y.l2, wd y.l3, wd y.l4], 31⟩, ⟨b1, [wd x.l0, wd x.l1, wd x.l2, wd x.l3, wd x.l4], 31⟩]) [wd ((F5.of ((x4 + 2251799813685248 * x5 + 5070602400912917605986812821504 * x6 + 11417981541647679048466287755595961091061972992 * x7 + 25711008708143844408671393477458601640355247900524685364822016 * x8) % pp)).l0), wd ((F5.of ((x4 + 2251799813685248 * x5 + 5070602400912917605986812821504 * x6 + 11417981541647679048466287755595961091061972992 * x7 + 25711008708143844408671393477458601640355247900524685364822016 * x8) % pp)).l1), wd ((F5.of ((x4 + 2251799813685248 * x5 + 5070602400912917605986812821504 * x6 + 11417981541647679048466287755595961091061972992 * x7 + 25711008708143844408671393477458601640355247900524685364822016 * x8) % pp)).l2), wd ((F5.of ((x4 + 2251799813685248 * x5 + 5070602400912917605986812821504 * x6 + 11417981541647679048466287755595961091061972992 * x7 + 25711008708143844408671393477458601640355247900524685364822016 * x8) % pp)).l3), wd ((F5.of ((x4 + 2251799813685248 * x5 + 5070602400912917605986812821504 * x6 + 11417981541647679048466287755595961091061972992 * x7 + 25711008708143844408671393477458601640355247900524685364822016 * x8) % pp)).l4)] 0 b3 0 [.int .u64 0, .int .u64 0, .int .u64 0, .int .u64 0, .int .u64 0] 31 rfl (by kernel_rfl) (by kernel_rfl) Tryd.sizeOf31 (by simp [Value.oneCell']) (by kernel_rfl) (by simp) (by kernel_rfl)) ?_
  refine S_nil ?_
  refine E_then ?_
  refine C_ret ?_
  have e : (x.val + y.val) % pp = (x4 + 2251799813685248 * x5 + 5070602400912917605986812821504 * x6 + 11417981541647679048466287755595961091061972992 * x7 + 25711008708143844408671393477458601640355247900524685364822016 * x8) % pp := by rw [show x4 + 2251799813685248 * x5 + 5070602400912917605986812821504 * x6 + 11417981541647679048466287755595961091061972992 * x7 + 25711008708143844408671393477458601640355247900524685364822016 * x8 = x.val + y.val from fadd_law hx4 hx5 hx6 hx7 hx8]
  rw [e]
  exact pure_ret rfl (resC Tryd.results65 [wd ((F5.of ((x4 + 2251799813685248 * x5 + 5070602400912917605986812821504 * x6 + 11417981541647679048466287755595961091061972992 * x7 + 25711008708143844408671393477458601640355247900524685364822016 * x8) % pp)).l0), wd ((F5.of ((x4 + 2251799813685248 * x5 + 5070602400912917605986812821504 * x6 + 11417981541647679048466287755595961091061972992 * x7 + 25711008708143844408671393477458601640355247900524685364822016 * x8) % pp)).l1), wd ((F5.of ((x4 + 2251799813685248 * x5 + 5070602400912917605986812821504 * x6 + 11417981541647679048466287755595961091061972992 * x7 + 25711008708143844408671393477458601640355247900524685364822016 * x8) % pp)).l2), wd ((F5.of ((x4 + 2251799813685248 * x5 + 5070602400912917605986812821504 * x6 + 11417981541647679048466287755595961091061972992 * x7 + 25711008708143844408671393477458601640355247900524685364822016 * x8) % pp)).l3), wd ((F5.of ((x4 + 2251799813685248 * x5 + 5070602400912917605986812821504 * x6 + 11417981541647679048466287755595961091061972992 * x7 + 25711008708143844408671393477458601640355247900524685364822016 * x8) % pp)).l4)] 0 b3 31 (by kernel_rfl) Tryd.isAgg31 Tryd.sizeOf31 (by kernel_rfl))
theorem c_fadd_sn (x y : F5) (hx : x.ok) (hy : y.ok) (sx : x.slim) (sy : ¬ y.slim) : Pure Tryd.prog 65 #[F5.v x, F5.v y] ((F5.of ((x.val + y.val) % pp)).v) := by
  refine pure_of Tryd.func65 rfl (fun w0 => ?_)
  refine C_seq ?_
  refine C_region ?_
  refine S_newv (fun nb0 => pt nb0 0) [wd x.l0, wd x.l1, wd x.l2, wd x.l3, wd x.l4] 31 (by kernel_rfl) (fun w _ => by kernel_rfl) ?_
  intro b1 hb1 Hb1
  refine S_newv (fun nb0 => pt nb0 0) [wd y.l0, wd y.l1, wd y.l2, wd y.l3, wd y.l4] 31 (by kernel_rfl) (fun w _ => by kernel_rfl) ?_
  intro b2 hb2 Hb2
  refine S_newv (fun nb0 => pt nb0 0) [.int .u64 0, .int .u64 0, .int .u64 0, .int .u64 0, .int .u64 0] 31 (by kernel_rfl) (fun w _ => by kernel_rfl) ?_
  intro b3 hb3 Hb3
  refine S_nil ?_
  refine E_then ?_
  refine C_seq ?_
  refine C_seq ?_
  refine C_region ?_
  refine S_val (F5.v x) (by kernel_rfl) (ldN [wd x.l0, wd x.l1, wd x.l2, wd x.l3, wd x.l4] 2 b1 0 [wd x.l0, wd x.l1, wd x.l2, wd x.l3, wd x.l4] 31 rfl (by kernel_rfl) Tryd.isAgg31 Tryd.sizeOf31 (by kernel_rfl) (by kernel_rfl)) ?_
  refine S_pure (v := .bool true) (by kernel_rfl) (c_slim_t x sx) (fun _ => by kernel_rfl) ?_
  refine S_v (.bool false) ?_
  refine S_v (.bool false) ?_
  refine S_val (F5.v y) (by kernel_rfl) (ldN [wd y.l0, wd y.l1, wd y.l2, wd y.l3, wd y.l4] 1 b2 0 [wd y.l0, wd y.l1, wd y.l2, wd y.l3, wd y.l4] 31 rfl (by kernel_rfl) Tryd.isAgg31 Tryd.sizeOf31 (by kernel_rfl) (by kernel_rfl)) ?_
  refine S_pure (v := .bool false) (by kernel_rfl) (c_slim_f y hy sy) (fun _ => by kernel_rfl) ?_
  refine S_v (.bool true) ?_
  refine S_v (.bool true) ?_
  refine S_nil ?_
  refine E_then ?_
  refine C_true (by kernel_rfl) ?_
  refine C_drawn [.held, .held, .held, .held, .eff, .eff] (by kernel_rfl) (by kernel_rfl) ?_
  refine D_held (F5.v x) (by kernel_rfl) (ldN [wd x.l0, wd x.l1, wd x.l2, wd x.l3, wd x.l4] 2 b1 0 [wd x.l0, wd x.l1, wd x.l2, wd x.l3, wd x.l4] 31 rfl (by kernel_rfl) Tryd.isAgg31 Tryd.sizeOf31 (by kernel_rfl) (by kernel_rfl)) ?_
  refine D_pure (v := F5.v (F5.of (x.val % pp))) (by kernel_rfl) (c_fleast x hx) (fun _ => by kernel_rfl) ?_
  refine D_held (F5.v y) (by kernel_rfl) (ldN [wd y.l0, wd y.l1, wd y.l2, wd y.l3, wd y.l4] 1 b2 0 [wd y.l0, wd y.l1, wd y.l2, wd y.l3, wd y.l4] 31 rfl (by kernel_rfl) Tryd.isAgg31 Tryd.sizeOf31 (by kernel_rfl) (by kernel_rfl)) ?_
  refine D_pure (v := F5.v (F5.of (y.val % pp))) (by kernel_rfl) (c_fleast y hy) (fun _ => by kernel_rfl) ?_
  refine D_do (by kernel_rfl) (stN (L' := [⟨b3, [.int .u64 0, .int .u64 0, .int .u64 0, .int .u64 0, .int .u64 0], 31⟩, ⟨b2, [wd y.l0, wd y.l1, wd y.l2, wd y.l3, wd y.l4], 31⟩, ⟨b1, [wd ((F5.of (x.val % pp)).l0), wd ((F5.of (x.val % pp)).l1), wd ((F5.of (x.val % pp)).l2), wd ((F5.of (x.val % pp)).l3), wd ((F5.of (x.val % pp)).l4)], 31⟩]) [wd ((F5.of (x.val % pp)).l0), wd ((F5.of (x.val % pp)).l1), wd ((F5.of (x.val % pp)).l2), wd ((F5.of (x.val % pp)).l3), wd ((F5.of (x.val % pp)).l4)] 2 b1 0 [wd x.l0, wd x.l1, wd x.l2, wd x.l3, wd x.l4] 31 rfl (by kernel_rfl) (by kernel_rfl) Tryd.sizeOf31 (by simp [Value.oneCell']) (by kernel_rfl) (by simp) (by kernel_rfl)) ?_
  refine D_do (by kernel_rfl) (stN (L' := [⟨b3, [.int .u64 0, .int .u64 0, .int .u64 0, .int .u64 0, .int .u64 0], 31⟩, ⟨b2, [wd ((F5.of (y.val % pp)).l0), wd ((F5.of (y.val % pp)).l1), wd ((F5.of (y.val % pp)).l2), wd ((F5.of (y.val % pp)).l3), wd ((F5.of (y.val % pp)).l4)], 31⟩, ⟨b1, [wd ((F5.of (x.val % pp)).l0), wd ((F5.of (x.val % pp)).l1), wd ((F5.of (x.val % pp)).l2), wd ((F5.of (x.val % pp)).l3), wd ((F5.of (x.val % pp)).l4)], 31⟩]) [wd ((F5.of (y.val % pp)).l0), wd ((F5.of (y.val % pp)).l1), wd ((F5.of (y.val % pp)).l2), wd ((F5.of (y.val % pp)).l3), wd ((F5.of (y.val % pp)).l4)] 1 b2 0 [wd y.l0, wd y.l1, wd y.l2, wd y.l3, wd y.l4] 31 rfl (by kernel_rfl) (by kernel_rfl) Tryd.sizeOf31 (by simp [Value.oneCell']) (by kernel_rfl) (by simp) (by kernel_rfl)) ?_
  refine D_nil ?_
  obtain ⟨X, hX⟩ : ∃ q, q = F5.of (x.val % pp) := ⟨_, rfl⟩
  have sX : X.slim := by rw [hX]; exact F5.of_slim _
  have vX : X.val = x.val % pp := by rw [hX]; exact F5.of_val (Nat.lt_trans (Nat.mod_lt _ (by decide)) (by decide))
  rw [← hX]
  obtain ⟨Y, hY⟩ : ∃ q, q = F5.of (y.val % pp) := ⟨_, rfl⟩
  have sY : Y.slim := by rw [hY]; exact F5.of_slim _
  have vY : Y.val = y.val % pp := by rw [hY]; exact F5.of_val (Nat.lt_trans (Nat.mod_lt _ (by decide)) (by decide))
  rw [← hY]
  refine E_forget (fun g => ⟨#[g 0, g 1, pt b1 0, pt b2 0, pt b3 0, g 5, .bool true, .bool false, .bool false, g 9, .bool false, .bool true, .bool true, g 13, g 14, g 15, g 16, g 17, g 18, g 19, g 20, g 21, g 22, g 23, g 24, g 25, g 26, g 27, g 28, g 29, g 30, g 31, g 32, g 33, g 34, g 35, g 36, g 37, g 38, g 39, g 40, g 41, g 42], []⟩) (by kernel_rfl) ?_
  intro g
  refine E_then ?_
  refine C_seq ?_
  refine C_region ?_
  refine S_v (pt b1 0) ?_
  refine S_val (wd X.l0) (by kernel_rfl) (ld1 2 b1 0 [wd X.l0, wd X.l1, wd X.l2, wd X.l3, wd X.l4] 31 rfl (by kernel_rfl) Tryd.isAgg29 (by kernel_rfl) (by kernel_rfl)) ?_
  refine S_v (pt b2 0) ?_
  refine S_val (wd Y.l0) (by kernel_rfl) (ld1 1 b2 0 [wd Y.l0, wd Y.l1, wd Y.l2, wd Y.l3, wd Y.l4] 31 rfl (by kernel_rfl) Tryd.isAgg29 (by kernel_rfl) (by kernel_rfl)) ?_
  obtain ⟨x4, hx4, ux4⟩ : ∃ q, q = X.l0 + Y.l0 ∧ q ≤ 4503599627370494 := ⟨_, rfl, Nat.add_le_add sX.l0 sY.l0⟩
  refine S_val (wd x4) (by kernel_rfl) (fun _ _ => fv (v := .int .u64 (IntKind.u64.wrap (((X.l0 : Nat) : Int) + ((Y.l0 : Nat) : Int)))) ((vint (hx4 ▸ u_add_lt X.l0 Y.l0 4503599627370494 (hx4 ▸ ux4) (by decide)))) (by kernel_rfl)) ?_
  refine S_v (pt b1 1) ?_
  refine S_val (wd X.l1) (by kernel_rfl) (ld1 2 b1 1 [wd X.l0, wd X.l1, wd X.l2, wd X.l3, wd X.l4] 31 rfl (by kernel_rfl) Tryd.isAgg29 (by kernel_rfl) (by kernel_rfl)) ?_
  refine S_v (pt b2 1) ?_
  refine S_val (wd Y.l1) (by kernel_rfl) (ld1 1 b2 1 [wd Y.l0, wd Y.l1, wd Y.l2, wd Y.l3, wd Y.l4] 31 rfl (by kernel_rfl) Tryd.isAgg29 (by kernel_rfl) (by kernel_rfl)) ?_
  obtain ⟨x5, hx5, ux5⟩ : ∃ q, q = X.l1 + Y.l1 ∧ q ≤ 4503599627370494 := ⟨_, rfl, Nat.add_le_add sX.l1 sY.l1⟩
  refine S_val (wd x5) (by kernel_rfl) (fun _ _ => fv (v := .int .u64 (IntKind.u64.wrap (((X.l1 : Nat) : Int) + ((Y.l1 : Nat) : Int)))) ((vint (hx5 ▸ u_add_lt X.l1 Y.l1 4503599627370494 (hx5 ▸ ux5) (by decide)))) (by kernel_rfl)) ?_
  refine S_v (pt b1 2) ?_
  refine S_val (wd X.l2) (by kernel_rfl) (ld1 2 b1 2 [wd X.l0, wd X.l1, wd X.l2, wd X.l3, wd X.l4] 31 rfl (by kernel_rfl) Tryd.isAgg29 (by kernel_rfl) (by kernel_rfl)) ?_
  refine S_v (pt b2 2) ?_
  refine S_val (wd Y.l2) (by kernel_rfl) (ld1 1 b2 2 [wd Y.l0, wd Y.l1, wd Y.l2, wd Y.l3, wd Y.l4] 31 rfl (by kernel_rfl) Tryd.isAgg29 (by kernel_rfl) (by kernel_rfl)) ?_
  obtain ⟨x6, hx6, ux6⟩ : ∃ q, q = X.l2 + Y.l2 ∧ q ≤ 4503599627370494 := ⟨_, rfl, Nat.add_le_add sX.l2 sY.l2⟩
  refine S_val (wd x6) (by kernel_rfl) (fun _ _ => fv (v := .int .u64 (IntKind.u64.wrap (((X.l2 : Nat) : Int) + ((Y.l2 : Nat) : Int)))) ((vint (hx6 ▸ u_add_lt X.l2 Y.l2 4503599627370494 (hx6 ▸ ux6) (by decide)))) (by kernel_rfl)) ?_
  refine S_v (pt b1 3) ?_
  refine S_val (wd X.l3) (by kernel_rfl) (ld1 2 b1 3 [wd X.l0, wd X.l1, wd X.l2, wd X.l3, wd X.l4] 31 rfl (by kernel_rfl) Tryd.isAgg29 (by kernel_rfl) (by kernel_rfl)) ?_
  refine S_v (pt b2 3) ?_
  refine S_val (wd Y.l3) (by kernel_rfl) (ld1 1 b2 3 [wd Y.l0, wd Y.l1, wd Y.l2, wd Y.l3, wd Y.l4] 31 rfl (by kernel_rfl) Tryd.isAgg29 (by kernel_rfl) (by kernel_rfl)) ?_
  obtain ⟨x7, hx7, ux7⟩ : ∃ q, q = X.l3 + Y.l3 ∧ q ≤ 4503599627370494 := ⟨_, rfl, Nat.add_le_add sX.l3 sY.l3⟩
  refine S_val (wd x7) (by kernel_rfl) (fun _ _ => fv (v := .int .u64 (IntKind.u64.wrap (((X.l3 : Nat) : Int) + ((Y.l3 : Nat) : Int)))) ((vint (hx7 ▸ u_add_lt X.l3 Y.l3 4503599627370494 (hx7 ▸ ux7) (by decide)))) (by kernel_rfl)) ?_
  refine S_v (pt b1 4) ?_
  refine S_val (wd X.l4) (by kernel_rfl) (ld1 2 b1 4 [wd X.l0, wd X.l1, wd X.l2, wd X.l3, wd X.l4] 31 rfl (by kernel_rfl) Tryd.isAgg29 (by kernel_rfl) (by kernel_rfl)) ?_
  refine S_v (pt b2 4) ?_
  refine S_val (wd Y.l4) (by kernel_rfl) (ld1 1 b2 4 [wd Y.l0, wd Y.l1, wd Y.l2, wd Y.l3, wd Y.l4] 31 rfl (by kernel_rfl) Tryd.isAgg29 (by kernel_rfl) (by kernel_rfl)) ?_
  obtain ⟨x8, hx8, ux8⟩ : ∃ q, q = X.l4 + Y.l4 ∧ q ≤ 4503599627370494 := ⟨_, rfl, Nat.add_le_add sX.l4 sY.l4⟩
  refine S_val (wd x8) (by kernel_rfl) (fun _ _ => fv (v := .int .u64 (IntKind.u64.wrap (((X.l4 : Nat) : Int) + ((Y.l4 : Nat) : Int)))) ((vint (hx8 ▸ u_add_lt X.l4 Y.l4 4503599627370494 (hx8 ▸ ux8) (by decide)))) (by kernel_rfl)) ?_
  refine S_pure (v := F5.v (F5.of ((x4 + 2251799813685248 * x5 + 5070602400912917605986812821504 * x6 + 11417981541647679048466287755595961091061972992 * x7 + 25711008708143844408671393477458601640355247900524685364822016 * x8) % pp))) (by kernel_rfl) (c_closed x4 x5 x6 x7 x8 (Nat.le_trans ux4 (by decide)) (Nat.le_trans ux5 (by decide)) (Nat.le_trans ux6 (by decide)) (Nat.le_trans ux7 (by decide)) (Nat.le_trans ux8 (by decide))) (fun _ => by kernel_rfl) ?_
  refine S_do (by kernel_rfl) (stN (L' := [⟨b3, [wd ((F5.of ((x4 + 2251799813685248 * x5 + 5070602400912917605986812821504 * x6 + 11417981541647679048466287755595961091061972992 * x7 + 25711008708143844408671393477458601640355247900524685364822016 * x8) % pp)).l0), wd ((F5.of ((x4 + 2251799813685248 * x5 + 5070602400912917605986812821504 * x6 + 11417981541647679048466287755595961091061972992 * x7 + 25711008708143844408671393477458601640355247900524685364822016 * x8) % pp)).l1), wd ((F5.of ((x4 + 2251799813685248 * x5 + 5070602400912917605986812821504 * x6 + 11417981541647679048466287755595961091061972992 * x7 + 25711008708143844408671393477458601640355247900524685364822016 * x8) % pp)).l2), wd ((F5.of ((x4 + 2251799813685248 * x5 + 5070602400912917605986812821504 * x6 + 11417981541647679048466287755595961091061972992 * x7 + 25711008708143844408671393477458601640355247900524685364822016 * x8) % pp)).l3), wd ((F5.of ((x4 + 2251799813685248 * x5 + 5070602400912917605986812821504 * x6 + 11417981541647679048466287755595961091061972992 * x7 + 25711008708143844408671393477458601640355247900524685364822016 * x8) % pp)).l4)], 31⟩, ⟨b2, [wd Y.l0, wd Y.l1, wd Y.l2, wd Y.l3, wd Y.l4], 31⟩, ⟨b1, [wd X.l0, wd X.l1, wd X.l2, wd X.l3, wd X.l4], 31⟩]) [wd ((F5.of ((x4 + 2251799813685248 * x5 + 5070602400912917605986812821504 * x6 + 11417981541647679048466287755595961091061972992 * x7 + 25711008708143844408671393477458601640355247900524685364822016 * x8) % pp)).l0), wd ((F5.of ((x4 + 2251799813685248 * x5 + 5070602400912917605986812821504 * x6 + 11417981541647679048466287755595961091061972992 * x7 + 25711008708143844408671393477458601640355247900524685364822016 * x8) % pp)).l1), wd ((F5.of ((x4 + 2251799813685248 * x5 + 5070602400912917605986812821504 * x6 + 11417981541647679048466287755595961091061972992 * x7 + 25711008708143844408671393477458601640355247900524685364822016 * x8) % pp)).l2), wd ((F5.of ((x4 + 2251799813685248 * x5 + 5070602400912917605986812821504 * x6 + 11417981541647679048466287755595961091061972992 * x7 + 25711008708143844408671393477458601640355247900524685364822016 * x8) % pp)).l3), wd ((F5.of ((x4 + 2251799813685248 * x5 + 5070602400912917605986812821504 * x6 + 11417981541647679048466287755595961091061972992 * x7 + 25711008708143844408671393477458601640355247900524685364822016 * x8) % pp)).l4)] 0 b3 0 [.int .u64 0, .int .u64 0, .int .u64 0, .int .u64 0, .int .u64 0] 31 rfl (by kernel_rfl) (by kernel_rfl) Tryd.sizeOf31 (by simp [Value.oneCell']) (by kernel_rfl) (by simp) (by kernel_rfl)) ?_
  refine S_nil ?_
  refine E_then ?_
  refine C_ret ?_
  have e : (x.val + y.val) % pp = (x4 + 2251799813685248 * x5 + 5070602400912917605986812821504 * x6 + 11417981541647679048466287755595961091061972992 * x7 + 25711008708143844408671393477458601640355247900524685364822016 * x8) % pp := by rw [show x4 + 2251799813685248 * x5 + 5070602400912917605986812821504 * x6 + 11417981541647679048466287755595961091061972992 * x7 + 25711008708143844408671393477458601640355247900524685364822016 * x8 = X.val + Y.val from fadd_law hx4 hx5 hx6 hx7 hx8]; rw [vX, vY, ← Nat.add_mod]
  rw [e]
  exact pure_ret rfl (resC Tryd.results65 [wd ((F5.of ((x4 + 2251799813685248 * x5 + 5070602400912917605986812821504 * x6 + 11417981541647679048466287755595961091061972992 * x7 + 25711008708143844408671393477458601640355247900524685364822016 * x8) % pp)).l0), wd ((F5.of ((x4 + 2251799813685248 * x5 + 5070602400912917605986812821504 * x6 + 11417981541647679048466287755595961091061972992 * x7 + 25711008708143844408671393477458601640355247900524685364822016 * x8) % pp)).l1), wd ((F5.of ((x4 + 2251799813685248 * x5 + 5070602400912917605986812821504 * x6 + 11417981541647679048466287755595961091061972992 * x7 + 25711008708143844408671393477458601640355247900524685364822016 * x8) % pp)).l2), wd ((F5.of ((x4 + 2251799813685248 * x5 + 5070602400912917605986812821504 * x6 + 11417981541647679048466287755595961091061972992 * x7 + 25711008708143844408671393477458601640355247900524685364822016 * x8) % pp)).l3), wd ((F5.of ((x4 + 2251799813685248 * x5 + 5070602400912917605986812821504 * x6 + 11417981541647679048466287755595961091061972992 * x7 + 25711008708143844408671393477458601640355247900524685364822016 * x8) % pp)).l4)] 0 b3 31 (by kernel_rfl) Tryd.isAgg31 Tryd.sizeOf31 (by kernel_rfl))
theorem c_fadd_n (x y : F5) (hx : x.ok) (hy : y.ok) (sx : ¬ x.slim) : Pure Tryd.prog 65 #[F5.v x, F5.v y] ((F5.of ((x.val + y.val) % pp)).v) := by
  refine pure_of Tryd.func65 rfl (fun w0 => ?_)
  refine C_seq ?_
  refine C_region ?_
  refine S_newv (fun nb0 => pt nb0 0) [wd x.l0, wd x.l1, wd x.l2, wd x.l3, wd x.l4] 31 (by kernel_rfl) (fun w _ => by kernel_rfl) ?_
  intro b1 hb1 Hb1
  refine S_newv (fun nb0 => pt nb0 0) [wd y.l0, wd y.l1, wd y.l2, wd y.l3, wd y.l4] 31 (by kernel_rfl) (fun w _ => by kernel_rfl) ?_
  intro b2 hb2 Hb2
  refine S_newv (fun nb0 => pt nb0 0) [.int .u64 0, .int .u64 0, .int .u64 0, .int .u64 0, .int .u64 0] 31 (by kernel_rfl) (fun w _ => by kernel_rfl) ?_
  intro b3 hb3 Hb3
  refine S_nil ?_
  refine E_then ?_
  refine C_seq ?_
  refine C_seq ?_
  refine C_region ?_
  refine S_val (F5.v x) (by kernel_rfl) (ldN [wd x.l0, wd x.l1, wd x.l2, wd x.l3, wd x.l4] 2 b1 0 [wd x.l0, wd x.l1, wd x.l2, wd x.l3, wd x.l4] 31 rfl (by kernel_rfl) Tryd.isAgg31 Tryd.sizeOf31 (by kernel_rfl) (by kernel_rfl)) ?_
  refine S_pure (v := .bool false) (by kernel_rfl) (c_slim_f x hx sx) (fun _ => by kernel_rfl) ?_
  refine S_v (.bool true) ?_
  refine S_v (.bool true) ?_
  refine S_not (by kernel_rfl) ?_
  refine S_not (by kernel_rfl) ?_
  refine S_not (by kernel_rfl) ?_
  refine S_v (.bool true) ?_
  refine S_nil ?_
  refine E_then ?_
  refine C_true (by kernel_rfl) ?_
  refine C_drawn [.held, .held, .held, .held, .eff, .eff] (by kernel_rfl) (by kernel_rfl) ?_
  refine D_held (F5.v x) (by kernel_rfl) (ldN [wd x.l0, wd x.l1, wd x.l2, wd x.l3, wd x.l4] 2 b1 0 [wd x.l0, wd x.l1, wd x.l2, wd x.l3, wd x.l4] 31 rfl (by kernel_rfl) Tryd.isAgg31 Tryd.sizeOf31 (by kernel_rfl) (by kernel_rfl)) ?_
  refine D_pure (v := F5.v (F5.of (x.val % pp))) (by kernel_rfl) (c_fleast x hx) (fun _ => by kernel_rfl) ?_
  refine D_held (F5.v y) (by kernel_rfl) (ldN [wd y.l0, wd y.l1, wd y.l2, wd y.l3, wd y.l4] 1 b2 0 [wd y.l0, wd y.l1, wd y.l2, wd y.l3, wd y.l4] 31 rfl (by kernel_rfl) Tryd.isAgg31 Tryd.sizeOf31 (by kernel_rfl) (by kernel_rfl)) ?_
  refine D_pure (v := F5.v (F5.of (y.val % pp))) (by kernel_rfl) (c_fleast y hy) (fun _ => by kernel_rfl) ?_
  refine D_do (by kernel_rfl) (stN (L' := [⟨b3, [.int .u64 0, .int .u64 0, .int .u64 0, .int .u64 0, .int .u64 0], 31⟩, ⟨b2, [wd y.l0, wd y.l1, wd y.l2, wd y.l3, wd y.l4], 31⟩, ⟨b1, [wd ((F5.of (x.val % pp)).l0), wd ((F5.of (x.val % pp)).l1), wd ((F5.of (x.val % pp)).l2), wd ((F5.of (x.val % pp)).l3), wd ((F5.of (x.val % pp)).l4)], 31⟩]) [wd ((F5.of (x.val % pp)).l0), wd ((F5.of (x.val % pp)).l1), wd ((F5.of (x.val % pp)).l2), wd ((F5.of (x.val % pp)).l3), wd ((F5.of (x.val % pp)).l4)] 2 b1 0 [wd x.l0, wd x.l1, wd x.l2, wd x.l3, wd x.l4] 31 rfl (by kernel_rfl) (by kernel_rfl) Tryd.sizeOf31 (by simp [Value.oneCell']) (by kernel_rfl) (by simp) (by kernel_rfl)) ?_
  refine D_do (by kernel_rfl) (stN (L' := [⟨b3, [.int .u64 0, .int .u64 0, .int .u64 0, .int .u64 0, .int .u64 0], 31⟩, ⟨b2, [wd ((F5.of (y.val % pp)).l0), wd ((F5.of (y.val % pp)).l1), wd ((F5.of (y.val % pp)).l2), wd ((F5.of (y.val % pp)).l3), wd ((F5.of (y.val % pp)).l4)], 31⟩, ⟨b1, [wd ((F5.of (x.val % pp)).l0), wd ((F5.of (x.val % pp)).l1), wd ((F5.of (x.val % pp)).l2), wd ((F5.of (x.val % pp)).l3), wd ((F5.of (x.val % pp)).l4)], 31⟩]) [wd ((F5.of (y.val % pp)).l0), wd ((F5.of (y.val % pp)).l1), wd ((F5.of (y.val % pp)).l2), wd ((F5.of (y.val % pp)).l3), wd ((F5.of (y.val % pp)).l4)] 1 b2 0 [wd y.l0, wd y.l1, wd y.l2, wd y.l3, wd y.l4] 31 rfl (by kernel_rfl) (by kernel_rfl) Tryd.sizeOf31 (by simp [Value.oneCell']) (by kernel_rfl) (by simp) (by kernel_rfl)) ?_
  refine D_nil ?_
  obtain ⟨X, hX⟩ : ∃ q, q = F5.of (x.val % pp) := ⟨_, rfl⟩
  have sX : X.slim := by rw [hX]; exact F5.of_slim _
  have vX : X.val = x.val % pp := by rw [hX]; exact F5.of_val (Nat.lt_trans (Nat.mod_lt _ (by decide)) (by decide))
  rw [← hX]
  obtain ⟨Y, hY⟩ : ∃ q, q = F5.of (y.val % pp) := ⟨_, rfl⟩
  have sY : Y.slim := by rw [hY]; exact F5.of_slim _
  have vY : Y.val = y.val % pp := by rw [hY]; exact F5.of_val (Nat.lt_trans (Nat.mod_lt _ (by decide)) (by decide))
  rw [← hY]
  refine E_forget (fun g => ⟨#[g 0, g 1, pt b1 0, pt b2 0, pt b3 0, g 5, .bool false, .bool true, .bool true, undef, undef, undef, .bool true, g 13, g 14, g 15, g 16, g 17, g 18, g 19, g 20, g 21, g 22, g 23, g 24, g 25, g 26, g 27, g 28, g 29, g 30, g 31, g 32, g 33, g 34, g 35, g 36, g 37, g 38, g 39, g 40, g 41, g 42], []⟩) (by kernel_rfl) ?_
  intro g
  refine E_then ?_
  refine C_seq ?_
  refine C_region ?_
  refine S_v (pt b1 0) ?_
  refine S_val (wd X.l0) (by kernel_rfl) (ld1 2 b1 0 [wd X.l0, wd X.l1, wd X.l2, wd X.l3, wd X.l4] 31 rfl (by kernel_rfl) Tryd.isAgg29 (by kernel_rfl) (by kernel_rfl)) ?_
  refine S_v (pt b2 0) ?_
  refine S_val (wd Y.l0) (by kernel_rfl) (ld1 1 b2 0 [wd Y.l0, wd Y.l1, wd Y.l2, wd Y.l3, wd Y.l4] 31 rfl (by kernel_rfl) Tryd.isAgg29 (by kernel_rfl) (by kernel_rfl)) ?_
  obtain ⟨x4, hx4, ux4⟩ : ∃ q, q = X.l0 + Y.l0 ∧ q ≤ 4503599627370494 := ⟨_, rfl, Nat.add_le_add sX.l0 sY.l0⟩
  refine S_val (wd x4) (by kernel_rfl) (fun _ _ => fv (v := .int .u64 (IntKind.u64.wrap (((X.l0 : Nat) : Int) + ((Y.l0 : Nat) : Int)))) ((vint (hx4 ▸ u_add_lt X.l0 Y.l0 4503599627370494 (hx4 ▸ ux4) (by decide)))) (by kernel_rfl)) ?_
  refine S_v (pt b1 1) ?_
  refine S_val (wd X.l1) (by kernel_rfl) (ld1 2 b1 1 [wd X.l0, wd X.l1, wd X.l2, wd X.l3, wd X.l4] 31 rfl (by kernel_rfl) Tryd.isAgg29 (by kernel_rfl) (by kernel_rfl)) ?_
  refine S_v (pt b2 1) ?_
  refine S_val (wd Y.l1) (by kernel_rfl) (ld1 1 b2 1 [wd Y.l0, wd Y.l1, wd Y.l2, wd Y.l3, wd Y.l4] 31 rfl (by kernel_rfl) Tryd.isAgg29 (by kernel_rfl) (by kernel_rfl)) ?_
  obtain ⟨x5, hx5, ux5⟩ : ∃ q, q = X.l1 + Y.l1 ∧ q ≤ 4503599627370494 := ⟨_, rfl, Nat.add_le_add sX.l1 sY.l1⟩
  refine S_val (wd x5) (by kernel_rfl) (fun _ _ => fv (v := .int .u64 (IntKind.u64.wrap (((X.l1 : Nat) : Int) + ((Y.l1 : Nat) : Int)))) ((vint (hx5 ▸ u_add_lt X.l1 Y.l1 4503599627370494 (hx5 ▸ ux5) (by decide)))) (by kernel_rfl)) ?_
  refine S_v (pt b1 2) ?_
  refine S_val (wd X.l2) (by kernel_rfl) (ld1 2 b1 2 [wd X.l0, wd X.l1, wd X.l2, wd X.l3, wd X.l4] 31 rfl (by kernel_rfl) Tryd.isAgg29 (by kernel_rfl) (by kernel_rfl)) ?_
  refine S_v (pt b2 2) ?_
  refine S_val (wd Y.l2) (by kernel_rfl) (ld1 1 b2 2 [wd Y.l0, wd Y.l1, wd Y.l2, wd Y.l3, wd Y.l4] 31 rfl (by kernel_rfl) Tryd.isAgg29 (by kernel_rfl) (by kernel_rfl)) ?_
  obtain ⟨x6, hx6, ux6⟩ : ∃ q, q = X.l2 + Y.l2 ∧ q ≤ 4503599627370494 := ⟨_, rfl, Nat.add_le_add sX.l2 sY.l2⟩
  refine S_val (wd x6) (by kernel_rfl) (fun _ _ => fv (v := .int .u64 (IntKind.u64.wrap (((X.l2 : Nat) : Int) + ((Y.l2 : Nat) : Int)))) ((vint (hx6 ▸ u_add_lt X.l2 Y.l2 4503599627370494 (hx6 ▸ ux6) (by decide)))) (by kernel_rfl)) ?_
  refine S_v (pt b1 3) ?_
  refine S_val (wd X.l3) (by kernel_rfl) (ld1 2 b1 3 [wd X.l0, wd X.l1, wd X.l2, wd X.l3, wd X.l4] 31 rfl (by kernel_rfl) Tryd.isAgg29 (by kernel_rfl) (by kernel_rfl)) ?_
  refine S_v (pt b2 3) ?_
  refine S_val (wd Y.l3) (by kernel_rfl) (ld1 1 b2 3 [wd Y.l0, wd Y.l1, wd Y.l2, wd Y.l3, wd Y.l4] 31 rfl (by kernel_rfl) Tryd.isAgg29 (by kernel_rfl) (by kernel_rfl)) ?_
  obtain ⟨x7, hx7, ux7⟩ : ∃ q, q = X.l3 + Y.l3 ∧ q ≤ 4503599627370494 := ⟨_, rfl, Nat.add_le_add sX.l3 sY.l3⟩
  refine S_val (wd x7) (by kernel_rfl) (fun _ _ => fv (v := .int .u64 (IntKind.u64.wrap (((X.l3 : Nat) : Int) + ((Y.l3 : Nat) : Int)))) ((vint (hx7 ▸ u_add_lt X.l3 Y.l3 4503599627370494 (hx7 ▸ ux7) (by decide)))) (by kernel_rfl)) ?_
  refine S_v (pt b1 4) ?_
  refine S_val (wd X.l4) (by kernel_rfl) (ld1 2 b1 4 [wd X.l0, wd X.l1, wd X.l2, wd X.l3, wd X.l4] 31 rfl (by kernel_rfl) Tryd.isAgg29 (by kernel_rfl) (by kernel_rfl)) ?_
  refine S_v (pt b2 4) ?_
  refine S_val (wd Y.l4) (by kernel_rfl) (ld1 1 b2 4 [wd Y.l0, wd Y.l1, wd Y.l2, wd Y.l3, wd Y.l4] 31 rfl (by kernel_rfl) Tryd.isAgg29 (by kernel_rfl) (by kernel_rfl)) ?_
  obtain ⟨x8, hx8, ux8⟩ : ∃ q, q = X.l4 + Y.l4 ∧ q ≤ 4503599627370494 := ⟨_, rfl, Nat.add_le_add sX.l4 sY.l4⟩
  refine S_val (wd x8) (by kernel_rfl) (fun _ _ => fv (v := .int .u64 (IntKind.u64.wrap (((X.l4 : Nat) : Int) + ((Y.l4 : Nat) : Int)))) ((vint (hx8 ▸ u_add_lt X.l4 Y.l4 4503599627370494 (hx8 ▸ ux8) (by decide)))) (by kernel_rfl)) ?_
  refine S_pure (v := F5.v (F5.of ((x4 + 2251799813685248 * x5 + 5070602400912917605986812821504 * x6 + 11417981541647679048466287755595961091061972992 * x7 + 25711008708143844408671393477458601640355247900524685364822016 * x8) % pp))) (by kernel_rfl) (c_closed x4 x5 x6 x7 x8 (Nat.le_trans ux4 (by decide)) (Nat.le_trans ux5 (by decide)) (Nat.le_trans ux6 (by decide)) (Nat.le_trans ux7 (by decide)) (Nat.le_trans ux8 (by decide))) (fun _ => by kernel_rfl) ?_
  refine S_do (by kernel_rfl) (stN (L' := [⟨b3, [wd ((F5.of ((x4 + 2251799813685248 * x5 + 5070602400912917605986812821504 * x6 + 11417981541647679048466287755595961091061972992 * x7 + 25711008708143844408671393477458601640355247900524685364822016 * x8) % pp)).l0), wd ((F5.of ((x4 + 2251799813685248 * x5 + 5070602400912917605986812821504 * x6 + 11417981541647679048466287755595961091061972992 * x7 + 25711008708143844408671393477458601640355247900524685364822016 * x8) % pp)).l1), wd ((F5.of ((x4 + 2251799813685248 * x5 + 5070602400912917605986812821504 * x6 + 11417981541647679048466287755595961091061972992 * x7 + 25711008708143844408671393477458601640355247900524685364822016 * x8) % pp)).l2), wd ((F5.of ((x4 + 2251799813685248 * x5 + 5070602400912917605986812821504 * x6 + 11417981541647679048466287755595961091061972992 * x7 + 25711008708143844408671393477458601640355247900524685364822016 * x8) % pp)).l3), wd ((F5.of ((x4 + 2251799813685248 * x5 + 5070602400912917605986812821504 * x6 + 11417981541647679048466287755595961091061972992 * x7 + 25711008708143844408671393477458601640355247900524685364822016 * x8) % pp)).l4)], 31⟩, ⟨b2, [wd Y.l0, wd Y.l1, wd Y.l2, wd Y.l3, wd Y.l4], 31⟩, ⟨b1, [wd X.l0, wd X.l1, wd X.l2, wd X.l3, wd X.l4], 31⟩]) [wd ((F5.of ((x4 + 2251799813685248 * x5 + 5070602400912917605986812821504 * x6 + 11417981541647679048466287755595961091061972992 * x7 + 25711008708143844408671393477458601640355247900524685364822016 * x8) % pp)).l0), wd ((F5.of ((x4 + 2251799813685248 * x5 + 5070602400912917605986812821504 * x6 + 11417981541647679048466287755595961091061972992 * x7 + 25711008708143844408671393477458601640355247900524685364822016 * x8) % pp)).l1), wd ((F5.of ((x4 + 2251799813685248 * x5 + 5070602400912917605986812821504 * x6 + 11417981541647679048466287755595961091061972992 * x7 + 25711008708143844408671393477458601640355247900524685364822016 * x8) % pp)).l2), wd ((F5.of ((x4 + 2251799813685248 * x5 + 5070602400912917605986812821504 * x6 + 11417981541647679048466287755595961091061972992 * x7 + 25711008708143844408671393477458601640355247900524685364822016 * x8) % pp)).l3), wd ((F5.of ((x4 + 2251799813685248 * x5 + 5070602400912917605986812821504 * x6 + 11417981541647679048466287755595961091061972992 * x7 + 25711008708143844408671393477458601640355247900524685364822016 * x8) % pp)).l4)] 0 b3 0 [.int .u64 0, .int .u64 0, .int .u64 0, .int .u64 0, .int .u64 0] 31 rfl (by kernel_rfl) (by kernel_rfl) Tryd.sizeOf31 (by simp [Value.oneCell']) (by kernel_rfl) (by simp) (by kernel_rfl)) ?_
  refine S_nil ?_
  refine E_then ?_
  refine C_ret ?_
  have e : (x.val + y.val) % pp = (x4 + 2251799813685248 * x5 + 5070602400912917605986812821504 * x6 + 11417981541647679048466287755595961091061972992 * x7 + 25711008708143844408671393477458601640355247900524685364822016 * x8) % pp := by rw [show x4 + 2251799813685248 * x5 + 5070602400912917605986812821504 * x6 + 11417981541647679048466287755595961091061972992 * x7 + 25711008708143844408671393477458601640355247900524685364822016 * x8 = X.val + Y.val from fadd_law hx4 hx5 hx6 hx7 hx8]; rw [vX, vY, ← Nat.add_mod]
  rw [e]
  exact pure_ret rfl (resC Tryd.results65 [wd ((F5.of ((x4 + 2251799813685248 * x5 + 5070602400912917605986812821504 * x6 + 11417981541647679048466287755595961091061972992 * x7 + 25711008708143844408671393477458601640355247900524685364822016 * x8) % pp)).l0), wd ((F5.of ((x4 + 2251799813685248 * x5 + 5070602400912917605986812821504 * x6 + 11417981541647679048466287755595961091061972992 * x7 + 25711008708143844408671393477458601640355247900524685364822016 * x8) % pp)).l1), wd ((F5.of ((x4 + 2251799813685248 * x5 + 5070602400912917605986812821504 * x6 + 11417981541647679048466287755595961091061972992 * x7 + 25711008708143844408671393477458601640355247900524685364822016 * x8) % pp)).l2), wd ((F5.of ((x4 + 2251799813685248 * x5 + 5070602400912917605986812821504 * x6 + 11417981541647679048466287755595961091061972992 * x7 + 25711008708143844408671393477458601640355247900524685364822016 * x8) % pp)).l3), wd ((F5.of ((x4 + 2251799813685248 * x5 + 5070602400912917605986812821504 * x6 + 11417981541647679048466287755595961091061972992 * x7 + 25711008708143844408671393477458601640355247900524685364822016 * x8) % pp)).l4)] 0 b3 31 (by kernel_rfl) Tryd.isAgg31 Tryd.sizeOf31 (by kernel_rfl))
theorem c_fadd (x y : F5) (hx : x.ok) (hy : y.ok) : Pure Tryd.prog 65 #[x.v, y.v] ((F5.of ((x.val + y.val) % pp)).v) := by
  by_cases sx : x.slim
  · by_cases sy : y.slim
    · exact c_fadd_ss x y hx hy sx sy
    · exact c_fadd_sn x y hx hy sx sy
  · exact c_fadd_n x y hx hy sx
theorem c_fsub_ss (x y : F5) (hx : x.ok) (hy : y.ok) (sx : x.slim) (sy : y.slim) : Pure Tryd.prog 39 #[F5.v x, F5.v y] ((F5.of (fsb x.val y.val)).v) := by
  refine pure_of Tryd.func39 rfl (fun w0 => ?_)
  refine C_seq ?_
  refine C_region ?_
  refine S_newv (fun nb0 => pt nb0 0) [wd x.l0, wd x.l1, wd x.l2, wd x.l3, wd x.l4] 31 (by kernel_rfl) (fun w _ => by kernel_rfl) ?_
  intro b1 hb1 Hb1
  refine S_newv (fun nb0 => pt nb0 0) [wd y.l0, wd y.l1, wd y.l2, wd y.l3, wd y.l4] 31 (by kernel_rfl) (fun w _ => by kernel_rfl) ?_
  intro b2 hb2 Hb2
  refine S_newv (fun nb0 => pt nb0 0) [.int .u64 0, .int .u64 0, .int .u64 0, .int .u64 0, .int .u64 0] 31 (by kernel_rfl) (fun w _ => by kernel_rfl) ?_
  intro b3 hb3 Hb3
  refine S_nil ?_
  refine E_then ?_
  refine C_seq ?_
  refine C_seq ?_
  refine C_region ?_
  refine S_val (F5.v x) (by kernel_rfl) (ldN [wd x.l0, wd x.l1, wd x.l2, wd x.l3, wd x.l4] 2 b1 0 [wd x.l0, wd x.l1, wd x.l2, wd x.l3, wd x.l4] 31 rfl (by kernel_rfl) Tryd.isAgg31 Tryd.sizeOf31 (by kernel_rfl) (by kernel_rfl)) ?_
  refine S_pure (v := .bool true) (by kernel_rfl) (c_slim_t x sx) (fun _ => by kernel_rfl) ?_
  refine S_v (.bool false) ?_
  refine S_v (.bool false) ?_
  refine S_val (F5.v y) (by kernel_rfl) (ldN [wd y.l0, wd y.l1, wd y.l2, wd y.l3, wd y.l4] 1 b2 0 [wd y.l0, wd y.l1, wd y.l2, wd y.l3, wd y.l4] 31 rfl (by kernel_rfl) Tryd.isAgg31 Tryd.sizeOf31 (by kernel_rfl) (by kernel_rfl)) ?_
  refine S_pure (v := .bool true) (by kernel_rfl) (c_slim_t y sy) (fun _ => by kernel_rfl) ?_
  refine S_v (.bool false) ?_
  refine S_v (.bool false) ?_
  refine S_nil ?_
  refine E_then ?_
  refine C_false (by kernel_rfl) ?_
  refine C_skip ?_
  refine E_then ?_
  refine C_seq ?_
  refine C_region ?_
  refine S_v (pt b1 0) ?_
  refine S_val (wd x.l0) (by kernel_rfl) (ld1 2 b1 0 [wd x.l0, wd x.l1, wd x.l2, wd x.l3, wd x.l4] 31 rfl (by kernel_rfl) Tryd.isAgg29 (by kernel_rfl) (by kernel_rfl)) ?_
  obtain ⟨x4, hx4, ux4⟩ : ∃ q, q = x.l0 + 4503599627370458 ∧ q ≤ 6755399441055705 := ⟨_, rfl, Nat.add_le_add sx.l0 (Nat.le_refl 4503599627370458)⟩
  refine S_val (wd x4) (by kernel_rfl) (fun _ _ => fv (v := .int .u64 (IntKind.u64.wrap (((x.l0 : Nat) : Int) + 4503599627370458))) ((vint (hx4 ▸ u_add_lt x.l0 4503599627370458 6755399441055705 (hx4 ▸ ux4) (by decide)))) (by kernel_rfl)) ?_
  refine S_v (pt b2 0) ?_
  refine S_val (wd y.l0) (by kernel_rfl) (ld1 1 b2 0 [wd y.l0, wd y.l1, wd y.l2, wd y.l3, wd y.l4] 31 rfl (by kernel_rfl) Tryd.isAgg29 (by kernel_rfl) (by kernel_rfl)) ?_
  obtain ⟨x5, hx5, lx5⟩ : ∃ q, q = (x4 + 18446744073709551616 - y.l0) % 18446744073709551616 ∧ q < 18446744073709551616 := ⟨_, rfl, Nat.mod_lt _ (by decide)⟩
  refine S_val (wd x5) (by kernel_rfl) (fun _ _ => fv (v := .int .u64 (IntKind.u64.wrap (((x4 : Nat) : Int) - ((y.l0 : Nat) : Int)))) ((vint (hx5 ▸ u_sub x4 y.l0 (Nat.le_of_lt (Nat.lt_of_le_of_lt sy.l0 (by decide)))))) (by kernel_rfl)) ?_
  refine S_v (pt b1 1) ?_
  refine S_val (wd x.l1) (by kernel_rfl) (ld1 2 b1 1 [wd x.l0, wd x.l1, wd x.l2, wd x.l3, wd x.l4] 31 rfl (by kernel_rfl) Tryd.isAgg29 (by kernel_rfl) (by kernel_rfl)) ?_
  obtain ⟨x6, hx6, ux6⟩ : ∃ q, q = x.l1 + 4503599627370494 ∧ q ≤ 6755399441055741 := ⟨_, rfl, Nat.add_le_add sx.l1 (Nat.le_refl 4503599627370494)⟩
  refine S_val (wd x6) (by kernel_rfl) (fun _ _ => fv (v := .int .u64 (IntKind.u64.wrap (((x.l1 : Nat) : Int) + 4503599627370494))) ((vint (hx6 ▸ u_add_lt x.l1 4503599627370494 6755399441055741 (hx6 ▸ ux6) (by decide)))) (by kernel_rfl)) ?_
  refine S_v (pt b2 1) ?_
  refine S_val (wd y.l1) (by kernel_rfl) (ld1 1 b2 1 [wd y.l0, wd y.l1, wd y.l2, wd y.l3, wd y.l4] 31 rfl (by kernel_rfl) Tryd.isAgg29 (by kernel_rfl) (by kernel_rfl)) ?_
  obtain ⟨x7, hx7, lx7⟩ : ∃ q, q = (x6 + 18446744073709551616 - y.l1) % 18446744073709551616 ∧ q < 18446744073709551616 := ⟨_, rfl, Nat.mod_lt _ (by decide)⟩
  refine S_val (wd x7) (by kernel_rfl) (fun _ _ => fv (v := .int .u64 (IntKind.u64.wrap (((x6 : Nat) : Int) - ((y.l1 : Nat) : Int)))) ((vint (hx7 ▸ u_sub x6 y.l1 (Nat.le_of_lt (Nat.lt_of_le_of_lt sy.l1 (by decide)))))) (by kernel_rfl)) ?_
  refine S_v (pt b1 2) ?_
  refine S_val (wd x.l2) (by kernel_rfl) (ld1 2 b1 2 [wd x.l0, wd x.l1, wd x.l2, wd x.l3, wd x.l4] 31 rfl (by kernel_rfl) Tryd.isAgg29 (by kernel_rfl) (by kernel_rfl)) ?_
  obtain ⟨x8, hx8, ux8⟩ : ∃ q, q = x.l2 + 4503599627370494 ∧ q ≤ 6755399441055741 := ⟨_, rfl, Nat.add_le_add sx.l2 (Nat.le_refl 4503599627370494)⟩
  refine S_val (wd x8) (by kernel_rfl) (fun _ _ => fv (v := .int .u64 (IntKind.u64.wrap (((x.l2 : Nat) : Int) + 4503599627370494))) ((vint (hx8 ▸ u_add_lt x.l2 4503599627370494 6755399441055741 (hx8 ▸ ux8) (by decide)))) (by kernel_rfl)) ?_
  refine S_v (pt b2 2) ?_
  refine S_val (wd y.l2) (by kernel_rfl) (ld1 1 b2 2 [wd y.l0, wd y.l1, wd y.l2, wd y.l3, wd y.l4] 31 rfl (by kernel_rfl) Tryd.isAgg29 (by kernel_rfl) (by kernel_rfl)) ?_
  obtain ⟨x9, hx9, lx9⟩ : ∃ q, q = (x8 + 18446744073709551616 - y.l2) % 18446744073709551616 ∧ q < 18446744073709551616 := ⟨_, rfl, Nat.mod_lt _ (by decide)⟩
  refine S_val (wd x9) (by kernel_rfl) (fun _ _ => fv (v := .int .u64 (IntKind.u64.wrap (((x8 : Nat) : Int) - ((y.l2 : Nat) : Int)))) ((vint (hx9 ▸ u_sub x8 y.l2 (Nat.le_of_lt (Nat.lt_of_le_of_lt sy.l2 (by decide)))))) (by kernel_rfl)) ?_
  refine S_v (pt b1 3) ?_
  refine S_val (wd x.l3) (by kernel_rfl) (ld1 2 b1 3 [wd x.l0, wd x.l1, wd x.l2, wd x.l3, wd x.l4] 31 rfl (by kernel_rfl) Tryd.isAgg29 (by kernel_rfl) (by kernel_rfl)) ?_
  obtain ⟨x10, hx10, ux10⟩ : ∃ q, q = x.l3 + 4503599627370494 ∧ q ≤ 6755399441055741 := ⟨_, rfl, Nat.add_le_add sx.l3 (Nat.le_refl 4503599627370494)⟩
  refine S_val (wd x10) (by kernel_rfl) (fun _ _ => fv (v := .int .u64 (IntKind.u64.wrap (((x.l3 : Nat) : Int) + 4503599627370494))) ((vint (hx10 ▸ u_add_lt x.l3 4503599627370494 6755399441055741 (hx10 ▸ ux10) (by decide)))) (by kernel_rfl)) ?_
  refine S_v (pt b2 3) ?_
  refine S_val (wd y.l3) (by kernel_rfl) (ld1 1 b2 3 [wd y.l0, wd y.l1, wd y.l2, wd y.l3, wd y.l4] 31 rfl (by kernel_rfl) Tryd.isAgg29 (by kernel_rfl) (by kernel_rfl)) ?_
  obtain ⟨x11, hx11, lx11⟩ : ∃ q, q = (x10 + 18446744073709551616 - y.l3) % 18446744073709551616 ∧ q < 18446744073709551616 := ⟨_, rfl, Nat.mod_lt _ (by decide)⟩
  refine S_val (wd x11) (by kernel_rfl) (fun _ _ => fv (v := .int .u64 (IntKind.u64.wrap (((x10 : Nat) : Int) - ((y.l3 : Nat) : Int)))) ((vint (hx11 ▸ u_sub x10 y.l3 (Nat.le_of_lt (Nat.lt_of_le_of_lt sy.l3 (by decide)))))) (by kernel_rfl)) ?_
  refine S_v (pt b1 4) ?_
  refine S_val (wd x.l4) (by kernel_rfl) (ld1 2 b1 4 [wd x.l0, wd x.l1, wd x.l2, wd x.l3, wd x.l4] 31 rfl (by kernel_rfl) Tryd.isAgg29 (by kernel_rfl) (by kernel_rfl)) ?_
  obtain ⟨x12, hx12, ux12⟩ : ∃ q, q = x.l4 + 4503599627370494 ∧ q ≤ 6755399441055741 := ⟨_, rfl, Nat.add_le_add sx.l4 (Nat.le_refl 4503599627370494)⟩
  refine S_val (wd x12) (by kernel_rfl) (fun _ _ => fv (v := .int .u64 (IntKind.u64.wrap (((x.l4 : Nat) : Int) + 4503599627370494))) ((vint (hx12 ▸ u_add_lt x.l4 4503599627370494 6755399441055741 (hx12 ▸ ux12) (by decide)))) (by kernel_rfl)) ?_
  refine S_v (pt b2 4) ?_
  refine S_val (wd y.l4) (by kernel_rfl) (ld1 1 b2 4 [wd y.l0, wd y.l1, wd y.l2, wd y.l3, wd y.l4] 31 rfl (by kernel_rfl) Tryd.isAgg29 (by kernel_rfl) (by kernel_rfl)) ?_
  obtain ⟨x13, hx13, lx13⟩ : ∃ q, q = (x12 + 18446744073709551616 - y.l4) % 18446744073709551616 ∧ q < 18446744073709551616 := ⟨_, rfl, Nat.mod_lt _ (by decide)⟩
  refine S_val (wd x13) (by kernel_rfl) (fun _ _ => fv (v := .int .u64 (IntKind.u64.wrap (((x12 : Nat) : Int) - ((y.l4 : Nat) : Int)))) ((vint (hx13 ▸ u_sub x12 y.l4 (Nat.le_of_lt (Nat.lt_of_le_of_lt sy.l4 (by decide)))))) (by kernel_rfl)) ?_
  refine S_pure (v := F5.v (F5.of ((x5 + 2251799813685248 * x7 + 5070602400912917605986812821504 * x9 + 11417981541647679048466287755595961091061972992 * x11 + 25711008708143844408671393477458601640355247900524685364822016 * x13) % pp))) (by kernel_rfl) (c_closed x5 x7 x9 x11 x13 (Nat.le_trans (fsub_le (Nat.le_trans ux4 (by decide)) sy.l0 (by omega) hx5) (by decide)) (Nat.le_trans (fsub_le (Nat.le_trans ux6 (by decide)) sy.l1 (by omega) hx7) (by decide)) (Nat.le_trans (fsub_le (Nat.le_trans ux8 (by decide)) sy.l2 (by omega) hx9) (by decide)) (Nat.le_trans (fsub_le (Nat.le_trans ux10 (by decide)) sy.l3 (by omega) hx11) (by decide)) (Nat.le_trans (fsub_le (Nat.le_trans ux12 (by decide)) sy.l4 (by omega) hx13) (by decide))) (fun _ => by kernel_rfl) ?_
  refine S_do (by kernel_rfl) (stN (L' := [⟨b3, [wd ((F5.of ((x5 + 2251799813685248 * x7 + 5070602400912917605986812821504 * x9 + 11417981541647679048466287755595961091061972992 * x11 + 25711008708143844408671393477458601640355247900524685364822016 * x13) % pp)).l0), wd ((F5.of ((x5 + 2251799813685248 * x7 + 5070602400912917605986812821504 * x9 + 11417981541647679048466287755595961091061972992 * x11 + 25711008708143844408671393477458601640355247900524685364822016 * x13) % pp)).l1), wd ((F5.of ((x5 + 2251799813685248 * x7 + 5070602400912917605986812821504 * x9 + 11417981541647679048466287755595961091061972992 * x11 + 25711008708143844408671393477458601640355247900524685364822016 * x13) % pp)).l2), wd ((F5.of ((x5 + 2251799813685248 * x7 + 5070602400912917605986812821504 * x9 + 11417981541647679048466287755595961091061972992 * x11 + 25711008708143844408671393477458601640355247900524685364822016 * x13) % pp)).l3), wd ((F5.of ((x5 + 2251799813685248 * x7 + 5070602400912917605986812821504 * x9 + 11417981541647679048466287755595961091061972992 * x11 + 25711008708143844408671393477458601640355247900524685364822016 * x13) % pp)).l4)], 31⟩, ⟨b2, [wd y.l0, wd y.l1, wd y.l2, wd y.l3, wd y.l4], 31⟩, ⟨b1, [wd x.l0, wd x.l1, wd x.l2, wd x.l3, wd x.l4], 31⟩]) [wd ((F5.of ((x5 + 2251799813685248 * x7 + 5070602400912917605986812821504 * x9 + 11417981541647679048466287755595961091061972992 * x11 + 25711008708143844408671393477458601640355247900524685364822016 * x13) % pp)).l0), wd ((F5.of ((x5 + 2251799813685248 * x7 + 5070602400912917605986812821504 * x9 + 11417981541647679048466287755595961091061972992 * x11 + 25711008708143844408671393477458601640355247900524685364822016 * x13) % pp)).l1), wd ((F5.of ((x5 + 2251799813685248 * x7 + 5070602400912917605986812821504 * x9 + 11417981541647679048466287755595961091061972992 * x11 + 25711008708143844408671393477458601640355247900524685364822016 * x13) % pp)).l2), wd ((F5.of ((x5 + 2251799813685248 * x7 + 5070602400912917605986812821504 * x9 + 11417981541647679048466287755595961091061972992 * x11 + 25711008708143844408671393477458601640355247900524685364822016 * x13) % pp)).l3), wd ((F5.of ((x5 + 2251799813685248 * x7 + 5070602400912917605986812821504 * x9 + 11417981541647679048466287755595961091061972992 * x11 + 25711008708143844408671393477458601640355247900524685364822016 * x13) % pp)).l4)] 0 b3 0 [.int .u64 0, .int .u64 0, .int .u64 0, .int .u64 0, .int .u64 0] 31 rfl (by kernel_rfl) (by kernel_rfl) Tryd.sizeOf31 (by simp [Value.oneCell']) (by kernel_rfl) (by simp) (by kernel_rfl)) ?_
  refine S_nil ?_
  refine E_then ?_
  refine C_ret ?_
  have e : fsb x.val y.val = (x5 + 2251799813685248 * x7 + 5070602400912917605986812821504 * x9 + 11417981541647679048466287755595961091061972992 * x11 + 25711008708143844408671393477458601640355247900524685364822016 * x13) % pp := by rw [show (x5 + 2251799813685248 * x7 + 5070602400912917605986812821504 * x9 + 11417981541647679048466287755595961091061972992 * x11 + 25711008708143844408671393477458601640355247900524685364822016 * x13) % pp = fsb x.val y.val from fsub_fin (fsub_law sy hx4 hx5 hx6 hx7 hx8 hx9 hx10 hx11 hx12 hx13 sx)]
  rw [e]
  exact pure_ret rfl (resC Tryd.results39 [wd ((F5.of ((x5 + 2251799813685248 * x7 + 5070602400912917605986812821504 * x9 + 11417981541647679048466287755595961091061972992 * x11 + 25711008708143844408671393477458601640355247900524685364822016 * x13) % pp)).l0), wd ((F5.of ((x5 + 2251799813685248 * x7 + 5070602400912917605986812821504 * x9 + 11417981541647679048466287755595961091061972992 * x11 + 25711008708143844408671393477458601640355247900524685364822016 * x13) % pp)).l1), wd ((F5.of ((x5 + 2251799813685248 * x7 + 5070602400912917605986812821504 * x9 + 11417981541647679048466287755595961091061972992 * x11 + 25711008708143844408671393477458601640355247900524685364822016 * x13) % pp)).l2), wd ((F5.of ((x5 + 2251799813685248 * x7 + 5070602400912917605986812821504 * x9 + 11417981541647679048466287755595961091061972992 * x11 + 25711008708143844408671393477458601640355247900524685364822016 * x13) % pp)).l3), wd ((F5.of ((x5 + 2251799813685248 * x7 + 5070602400912917605986812821504 * x9 + 11417981541647679048466287755595961091061972992 * x11 + 25711008708143844408671393477458601640355247900524685364822016 * x13) % pp)).l4)] 0 b3 31 (by kernel_rfl) Tryd.isAgg31 Tryd.sizeOf31 (by kernel_rfl))
theorem c_fsub_sn (x y : F5) (hx : x.ok) (hy : y.ok) (sx : x.slim) (sy : ¬ y.slim) : Pure Tryd.prog 39 #[F5.v x, F5.v y] ((F5.of (fsb x.val y.val)).v) := by
  refine pure_of Tryd.func39 rfl (fun w0 => ?_)
  refine C_seq ?_
  refine C_region ?_
  refine S_newv (fun nb0 => pt nb0 0) [wd x.l0, wd x.l1, wd x.l2, wd x.l3, wd x.l4] 31 (by kernel_rfl) (fun w _ => by kernel_rfl) ?_
  intro b1 hb1 Hb1
  refine S_newv (fun nb0 => pt nb0 0) [wd y.l0, wd y.l1, wd y.l2, wd y.l3, wd y.l4] 31 (by kernel_rfl) (fun w _ => by kernel_rfl) ?_
  intro b2 hb2 Hb2
  refine S_newv (fun nb0 => pt nb0 0) [.int .u64 0, .int .u64 0, .int .u64 0, .int .u64 0, .int .u64 0] 31 (by kernel_rfl) (fun w _ => by kernel_rfl) ?_
  intro b3 hb3 Hb3
  refine S_nil ?_
  refine E_then ?_
  refine C_seq ?_
  refine C_seq ?_
  refine C_region ?_
  refine S_val (F5.v x) (by kernel_rfl) (ldN [wd x.l0, wd x.l1, wd x.l2, wd x.l3, wd x.l4] 2 b1 0 [wd x.l0, wd x.l1, wd x.l2, wd x.l3, wd x.l4] 31 rfl (by kernel_rfl) Tryd.isAgg31 Tryd.sizeOf31 (by kernel_rfl) (by kernel_rfl)) ?_
  refine S_pure (v := .bool true) (by kernel_rfl) (c_slim_t x sx) (fun _ => by kernel_rfl) ?_
  refine S_v (.bool false) ?_
  refine S_v (.bool false) ?_
  refine S_val (F5.v y) (by kernel_rfl) (ldN [wd y.l0, wd y.l1, wd y.l2, wd y.l3, wd y.l4] 1 b2 0 [wd y.l0, wd y.l1, wd y.l2, wd y.l3, wd y.l4] 31 rfl (by kernel_rfl) Tryd.isAgg31 Tryd.sizeOf31 (by kernel_rfl) (by kernel_rfl)) ?_
  refine S_pure (v := .bool false) (by kernel_rfl) (c_slim_f y hy sy) (fun _ => by kernel_rfl) ?_
  refine S_v (.bool true) ?_
  refine S_v (.bool true) ?_
  refine S_nil ?_
  refine E_then ?_
  refine C_true (by kernel_rfl) ?_
  refine C_drawn [.held, .held, .held, .held, .eff, .eff] (by kernel_rfl) (by kernel_rfl) ?_
  refine D_held (F5.v x) (by kernel_rfl) (ldN [wd x.l0, wd x.l1, wd x.l2, wd x.l3, wd x.l4] 2 b1 0 [wd x.l0, wd x.l1, wd x.l2, wd x.l3, wd x.l4] 31 rfl (by kernel_rfl) Tryd.isAgg31 Tryd.sizeOf31 (by kernel_rfl) (by kernel_rfl)) ?_
  refine D_pure (v := F5.v (F5.of (x.val % pp))) (by kernel_rfl) (c_fleast x hx) (fun _ => by kernel_rfl) ?_
  refine D_held (F5.v y) (by kernel_rfl) (ldN [wd y.l0, wd y.l1, wd y.l2, wd y.l3, wd y.l4] 1 b2 0 [wd y.l0, wd y.l1, wd y.l2, wd y.l3, wd y.l4] 31 rfl (by kernel_rfl) Tryd.isAgg31 Tryd.sizeOf31 (by kernel_rfl) (by kernel_rfl)) ?_
  refine D_pure (v := F5.v (F5.of (y.val % pp))) (by kernel_rfl) (c_fleast y hy) (fun _ => by kernel_rfl) ?_
  refine D_do (by kernel_rfl) (stN (L' := [⟨b3, [.int .u64 0, .int .u64 0, .int .u64 0, .int .u64 0, .int .u64 0], 31⟩, ⟨b2, [wd y.l0, wd y.l1, wd y.l2, wd y.l3, wd y.l4], 31⟩, ⟨b1, [wd ((F5.of (x.val % pp)).l0), wd ((F5.of (x.val % pp)).l1), wd ((F5.of (x.val % pp)).l2), wd ((F5.of (x.val % pp)).l3), wd ((F5.of (x.val % pp)).l4)], 31⟩]) [wd ((F5.of (x.val % pp)).l0), wd ((F5.of (x.val % pp)).l1), wd ((F5.of (x.val % pp)).l2), wd ((F5.of (x.val % pp)).l3), wd ((F5.of (x.val % pp)).l4)] 2 b1 0 [wd x.l0, wd x.l1, wd x.l2, wd x.l3, wd x.l4] 31 rfl (by kernel_rfl) (by kernel_rfl) Tryd.sizeOf31 (by simp [Value.oneCell']) (by kernel_rfl) (by simp) (by kernel_rfl)) ?_
  refine D_do (by kernel_rfl) (stN (L' := [⟨b3, [.int .u64 0, .int .u64 0, .int .u64 0, .int .u64 0, .int .u64 0], 31⟩, ⟨b2, [wd ((F5.of (y.val % pp)).l0), wd ((F5.of (y.val % pp)).l1), wd ((F5.of (y.val % pp)).l2), wd ((F5.of (y.val % pp)).l3), wd ((F5.of (y.val % pp)).l4)], 31⟩, ⟨b1, [wd ((F5.of (x.val % pp)).l0), wd ((F5.of (x.val % pp)).l1), wd ((F5.of (x.val % pp)).l2), wd ((F5.of (x.val % pp)).l3), wd ((F5.of (x.val % pp)).l4)], 31⟩]) [wd ((F5.of (y.val % pp)).l0), wd ((F5.of (y.val % pp)).l1), wd ((F5.of (y.val % pp)).l2), wd ((F5.of (y.val % pp)).l3), wd ((F5.of (y.val % pp)).l4)] 1 b2 0 [wd y.l0, wd y.l1, wd y.l2, wd y.l3, wd y.l4] 31 rfl (by kernel_rfl) (by kernel_rfl) Tryd.sizeOf31 (by simp [Value.oneCell']) (by kernel_rfl) (by simp) (by kernel_rfl)) ?_
  refine D_nil ?_
  obtain ⟨X, hX⟩ : ∃ q, q = F5.of (x.val % pp) := ⟨_, rfl⟩
  have sX : X.slim := by rw [hX]; exact F5.of_slim _
  have vX : X.val = x.val % pp := by rw [hX]; exact F5.of_val (Nat.lt_trans (Nat.mod_lt _ (by decide)) (by decide))
  rw [← hX]
  obtain ⟨Y, hY⟩ : ∃ q, q = F5.of (y.val % pp) := ⟨_, rfl⟩
  have sY : Y.slim := by rw [hY]; exact F5.of_slim _
  have vY : Y.val = y.val % pp := by rw [hY]; exact F5.of_val (Nat.lt_trans (Nat.mod_lt _ (by decide)) (by decide))
  rw [← hY]
  refine E_forget (fun g => ⟨#[g 0, g 1, pt b1 0, pt b2 0, pt b3 0, g 5, .bool true, .bool false, .bool false, g 9, .bool false, .bool true, .bool true, g 13, g 14, g 15, g 16, g 17, g 18, g 19, g 20, g 21, g 22, g 23, g 24, g 25, g 26, g 27, g 28, g 29, g 30, g 31, g 32, g 33, g 34, g 35, g 36, g 37, g 38, g 39, g 40, g 41, g 42, g 43, g 44, g 45, g 46, g 47], []⟩) (by kernel_rfl) ?_
  intro g
  refine E_then ?_
  refine C_seq ?_
  refine C_region ?_
  refine S_v (pt b1 0) ?_
  refine S_val (wd X.l0) (by kernel_rfl) (ld1 2 b1 0 [wd X.l0, wd X.l1, wd X.l2, wd X.l3, wd X.l4] 31 rfl (by kernel_rfl) Tryd.isAgg29 (by kernel_rfl) (by kernel_rfl)) ?_
  obtain ⟨x4, hx4, ux4⟩ : ∃ q, q = X.l0 + 4503599627370458 ∧ q ≤ 6755399441055705 := ⟨_, rfl, Nat.add_le_add sX.l0 (Nat.le_refl 4503599627370458)⟩
  refine S_val (wd x4) (by kernel_rfl) (fun _ _ => fv (v := .int .u64 (IntKind.u64.wrap (((X.l0 : Nat) : Int) + 4503599627370458))) ((vint (hx4 ▸ u_add_lt X.l0 4503599627370458 6755399441055705 (hx4 ▸ ux4) (by decide)))) (by kernel_rfl)) ?_
  refine S_v (pt b2 0) ?_
  refine S_val (wd Y.l0) (by kernel_rfl) (ld1 1 b2 0 [wd Y.l0, wd Y.l1, wd Y.l2, wd Y.l3, wd Y.l4] 31 rfl (by kernel_rfl) Tryd.isAgg29 (by kernel_rfl) (by kernel_rfl)) ?_
  obtain ⟨x5, hx5, lx5⟩ : ∃ q, q = (x4 + 18446744073709551616 - Y.l0) % 18446744073709551616 ∧ q < 18446744073709551616 := ⟨_, rfl, Nat.mod_lt _ (by decide)⟩
  refine S_val (wd x5) (by kernel_rfl) (fun _ _ => fv (v := .int .u64 (IntKind.u64.wrap (((x4 : Nat) : Int) - ((Y.l0 : Nat) : Int)))) ((vint (hx5 ▸ u_sub x4 Y.l0 (Nat.le_of_lt (Nat.lt_of_le_of_lt sY.l0 (by decide)))))) (by kernel_rfl)) ?_
  refine S_v (pt b1 1) ?_
  refine S_val (wd X.l1) (by kernel_rfl) (ld1 2 b1 1 [wd X.l0, wd X.l1, wd X.l2, wd X.l3, wd X.l4] 31 rfl (by kernel_rfl) Tryd.isAgg29 (by kernel_rfl) (by kernel_rfl)) ?_
  obtain ⟨x6, hx6, ux6⟩ : ∃ q, q = X.l1 + 4503599627370494 ∧ q ≤ 6755399441055741 := ⟨_, rfl, Nat.add_le_add sX.l1 (Nat.le_refl 4503599627370494)⟩
  refine S_val (wd x6) (by kernel_rfl) (fun _ _ => fv (v := .int .u64 (IntKind.u64.wrap (((X.l1 : Nat) : Int) + 4503599627370494))) ((vint (hx6 ▸ u_add_lt X.l1 4503599627370494 6755399441055741 (hx6 ▸ ux6) (by decide)))) (by kernel_rfl)) ?_
  refine S_v (pt b2 1) ?_
  refine S_val (wd Y.l1) (by kernel_rfl) (ld1 1 b2 1 [wd Y.l0, wd Y.l1, wd Y.l2, wd Y.l3, wd Y.l4] 31 rfl (by kernel_rfl) Tryd.isAgg29 (by kernel_rfl) (by kernel_rfl)) ?_
  obtain ⟨x7, hx7, lx7⟩ : ∃ q, q = (x6 + 18446744073709551616 - Y.l1) % 18446744073709551616 ∧ q < 18446744073709551616 := ⟨_, rfl, Nat.mod_lt _ (by decide)⟩
  refine S_val (wd x7) (by kernel_rfl) (fun _ _ => fv (v := .int .u64 (IntKind.u64.wrap (((x6 : Nat) : Int) - ((Y.l1 : Nat) : Int)))) ((vint (hx7 ▸ u_sub x6 Y.l1 (Nat.le_of_lt (Nat.lt_of_le_of_lt sY.l1 (by decide)))))) (by kernel_rfl)) ?_
  refine S_v (pt b1 2) ?_
  refine S_val (wd X.l2) (by kernel_rfl) (ld1 2 b1 2 [wd X.l0, wd X.l1, wd X.l2, wd X.l3, wd X.l4] 31 rfl (by kernel_rfl) Tryd.isAgg29 (by kernel_rfl) (by kernel_rfl)) ?_
  obtain ⟨x8, hx8, ux8⟩ : ∃ q, q = X.l2 + 4503599627370494 ∧ q ≤ 6755399441055741 := ⟨_, rfl, Nat.add_le_add sX.l2 (Nat.le_refl 4503599627370494)⟩
  refine S_val (wd x8) (by kernel_rfl) (fun _ _ => fv (v := .int .u64 (IntKind.u64.wrap (((X.l2 : Nat) : Int) + 4503599627370494))) ((vint (hx8 ▸ u_add_lt X.l2 4503599627370494 6755399441055741 (hx8 ▸ ux8) (by decide)))) (by kernel_rfl)) ?_
  refine S_v (pt b2 2) ?_
  refine S_val (wd Y.l2) (by kernel_rfl) (ld1 1 b2 2 [wd Y.l0, wd Y.l1, wd Y.l2, wd Y.l3, wd Y.l4] 31 rfl (by kernel_rfl) Tryd.isAgg29 (by kernel_rfl) (by kernel_rfl)) ?_
  obtain ⟨x9, hx9, lx9⟩ : ∃ q, q = (x8 + 18446744073709551616 - Y.l2) % 18446744073709551616 ∧ q < 18446744073709551616 := ⟨_, rfl, Nat.mod_lt _ (by decide)⟩
  refine S_val (wd x9) (by kernel_rfl) (fun _ _ => fv (v := .int .u64 (IntKind.u64.wrap (((x8 : Nat) : Int) - ((Y.l2 : Nat) : Int)))) ((vint (hx9 ▸ u_sub x8 Y.l2 (Nat.le_of_lt (Nat.lt_of_le_of_lt sY.l2 (by decide)))))) (by kernel_rfl)) ?_
  refine S_v (pt b1 3) ?_
  refine S_val (wd X.l3) (by kernel_rfl) (ld1 2 b1 3 [wd X.l0, wd X.l1, wd X.l2, wd X.l3, wd X.l4] 31 rfl (by kernel_rfl) Tryd.isAgg29 (by kernel_rfl) (by kernel_rfl)) ?_
  obtain ⟨x10, hx10, ux10⟩ : ∃ q, q = X.l3 + 4503599627370494 ∧ q ≤ 6755399441055741 := ⟨_, rfl, Nat.add_le_add sX.l3 (Nat.le_refl 4503599627370494)⟩
  refine S_val (wd x10) (by kernel_rfl) (fun _ _ => fv (v := .int .u64 (IntKind.u64.wrap (((X.l3 : Nat) : Int) + 4503599627370494))) ((vint (hx10 ▸ u_add_lt X.l3 4503599627370494 6755399441055741 (hx10 ▸ ux10) (by decide)))) (by kernel_rfl)) ?_
  refine S_v (pt b2 3) ?_
  refine S_val (wd Y.l3) (by kernel_rfl) (ld1 1 b2 3 [wd Y.l0, wd Y.l1, wd Y.l2, wd Y.l3, wd Y.l4] 31 rfl (by kernel_rfl) Tryd.isAgg29 (by kernel_rfl) (by kernel_rfl)) ?_
  obtain ⟨x11, hx11, lx11⟩ : ∃ q, q = (x10 + 18446744073709551616 - Y.l3) % 18446744073709551616 ∧ q < 18446744073709551616 := ⟨_, rfl, Nat.mod_lt _ (by decide)⟩
  refine S_val (wd x11) (by kernel_rfl) (fun _ _ => fv (v := .int .u64 (IntKind.u64.wrap (((x10 : Nat) : Int) - ((Y.l3 : Nat) : Int)))) ((vint (hx11 ▸ u_sub x10 Y.l3 (Nat.le_of_lt (Nat.lt_of_le_of_lt sY.l3 (by decide)))))) (by kernel_rfl)) ?_
  refine S_v (pt b1 4) ?_
  refine S_val (wd X.l4) (by kernel_rfl) (ld1 2 b1 4 [wd X.l0, wd X.l1, wd X.l2, wd X.l3, wd X.l4] 31 rfl (by kernel_rfl) Tryd.isAgg29 (by kernel_rfl) (by kernel_rfl)) ?_
  obtain ⟨x12, hx12, ux12⟩ : ∃ q, q = X.l4 + 4503599627370494 ∧ q ≤ 6755399441055741 := ⟨_, rfl, Nat.add_le_add sX.l4 (Nat.le_refl 4503599627370494)⟩
  refine S_val (wd x12) (by kernel_rfl) (fun _ _ => fv (v := .int .u64 (IntKind.u64.wrap (((X.l4 : Nat) : Int) + 4503599627370494))) ((vint (hx12 ▸ u_add_lt X.l4 4503599627370494 6755399441055741 (hx12 ▸ ux12) (by decide)))) (by kernel_rfl)) ?_
  refine S_v (pt b2 4) ?_
  refine S_val (wd Y.l4) (by kernel_rfl) (ld1 1 b2 4 [wd Y.l0, wd Y.l1, wd Y.l2, wd Y.l3, wd Y.l4] 31 rfl (by kernel_rfl) Tryd.isAgg29 (by kernel_rfl) (by kernel_rfl)) ?_
  obtain ⟨x13, hx13, lx13⟩ : ∃ q, q = (x12 + 18446744073709551616 - Y.l4) % 18446744073709551616 ∧ q < 18446744073709551616 := ⟨_, rfl, Nat.mod_lt _ (by decide)⟩
  refine S_val (wd x13) (by kernel_rfl) (fun _ _ => fv (v := .int .u64 (IntKind.u64.wrap (((x12 : Nat) : Int) - ((Y.l4 : Nat) : Int)))) ((vint (hx13 ▸ u_sub x12 Y.l4 (Nat.le_of_lt (Nat.lt_of_le_of_lt sY.l4 (by decide)))))) (by kernel_rfl)) ?_
  refine S_pure (v := F5.v (F5.of ((x5 + 2251799813685248 * x7 + 5070602400912917605986812821504 * x9 + 11417981541647679048466287755595961091061972992 * x11 + 25711008708143844408671393477458601640355247900524685364822016 * x13) % pp))) (by kernel_rfl) (c_closed x5 x7 x9 x11 x13 (Nat.le_trans (fsub_le (Nat.le_trans ux4 (by decide)) sY.l0 (by omega) hx5) (by decide)) (Nat.le_trans (fsub_le (Nat.le_trans ux6 (by decide)) sY.l1 (by omega) hx7) (by decide)) (Nat.le_trans (fsub_le (Nat.le_trans ux8 (by decide)) sY.l2 (by omega) hx9) (by decide)) (Nat.le_trans (fsub_le (Nat.le_trans ux10 (by decide)) sY.l3 (by omega) hx11) (by decide)) (Nat.le_trans (fsub_le (Nat.le_trans ux12 (by decide)) sY.l4 (by omega) hx13) (by decide))) (fun _ => by kernel_rfl) ?_
  refine S_do (by kernel_rfl) (stN (L' := [⟨b3, [wd ((F5.of ((x5 + 2251799813685248 * x7 + 5070602400912917605986812821504 * x9 + 11417981541647679048466287755595961091061972992 * x11 + 25711008708143844408671393477458601640355247900524685364822016 * x13) % pp)).l0), wd ((F5.of ((x5 + 2251799813685248 * x7 + 5070602400912917605986812821504 * x9 + 11417981541647679048466287755595961091061972992 * x11 + 25711008708143844408671393477458601640355247900524685364822016 * x13) % pp)).l1), wd ((F5.of ((x5 + 2251799813685248 * x7 + 5070602400912917605986812821504 * x9 + 11417981541647679048466287755595961091061972992 * x11 + 25711008708143844408671393477458601640355247900524685364822016 * x13) % pp)).l2), wd ((F5.of ((x5 + 2251799813685248 * x7 + 5070602400912917605986812821504 * x9 + 11417981541647679048466287755595961091061972992 * x11 + 25711008708143844408671393477458601640355247900524685364822016 * x13) % pp)).l3), wd ((F5.of ((x5 + 2251799813685248 * x7 + 5070602400912917605986812821504 * x9 + 11417981541647679048466287755595961091061972992 * x11 + 25711008708143844408671393477458601640355247900524685364822016 * x13) % pp)).l4)], 31⟩, ⟨b2, [wd Y.l0, wd Y.l1, wd Y.l2, wd Y.l3, wd Y.l4], 31⟩, ⟨b1, [wd X.l0, wd X.l1, wd X.l2, wd X.l3, wd X.l4], 31⟩]) [wd ((F5.of ((x5 + 2251799813685248 * x7 + 5070602400912917605986812821504 * x9 + 11417981541647679048466287755595961091061972992 * x11 + 25711008708143844408671393477458601640355247900524685364822016 * x13) % pp)).l0), wd ((F5.of ((x5 + 2251799813685248 * x7 + 5070602400912917605986812821504 * x9 + 11417981541647679048466287755595961091061972992 * x11 + 25711008708143844408671393477458601640355247900524685364822016 * x13) % pp)).l1), wd ((F5.of ((x5 + 2251799813685248 * x7 + 5070602400912917605986812821504 * x9 + 11417981541647679048466287755595961091061972992 * x11 + 25711008708143844408671393477458601640355247900524685364822016 * x13) % pp)).l2), wd ((F5.of ((x5 + 2251799813685248 * x7 + 5070602400912917605986812821504 * x9 + 11417981541647679048466287755595961091061972992 * x11 + 25711008708143844408671393477458601640355247900524685364822016 * x13) % pp)).l3), wd ((F5.of ((x5 + 2251799813685248 * x7 + 5070602400912917605986812821504 * x9 + 11417981541647679048466287755595961091061972992 * x11 + 25711008708143844408671393477458601640355247900524685364822016 * x13) % pp)).l4)] 0 b3 0 [.int .u64 0, .int .u64 0, .int .u64 0, .int .u64 0, .int .u64 0] 31 rfl (by kernel_rfl) (by kernel_rfl) Tryd.sizeOf31 (by simp [Value.oneCell']) (by kernel_rfl) (by simp) (by kernel_rfl)) ?_
  refine S_nil ?_
  refine E_then ?_
  refine C_ret ?_
  have e : fsb x.val y.val = (x5 + 2251799813685248 * x7 + 5070602400912917605986812821504 * x9 + 11417981541647679048466287755595961091061972992 * x11 + 25711008708143844408671393477458601640355247900524685364822016 * x13) % pp := by rw [show (x5 + 2251799813685248 * x7 + 5070602400912917605986812821504 * x9 + 11417981541647679048466287755595961091061972992 * x11 + 25711008708143844408671393477458601640355247900524685364822016 * x13) % pp = fsb X.val Y.val from fsub_fin (fsub_law sY hx4 hx5 hx6 hx7 hx8 hx9 hx10 hx11 hx12 hx13 sX)]; rw [vX, vY, fsb_mod]
  rw [e]
  exact pure_ret rfl (resC Tryd.results39 [wd ((F5.of ((x5 + 2251799813685248 * x7 + 5070602400912917605986812821504 * x9 + 11417981541647679048466287755595961091061972992 * x11 + 25711008708143844408671393477458601640355247900524685364822016 * x13) % pp)).l0), wd ((F5.of ((x5 + 2251799813685248 * x7 + 5070602400912917605986812821504 * x9 + 11417981541647679048466287755595961091061972992 * x11 + 25711008708143844408671393477458601640355247900524685364822016 * x13) % pp)).l1), wd ((F5.of ((x5 + 2251799813685248 * x7 + 5070602400912917605986812821504 * x9 + 11417981541647679048466287755595961091061972992 * x11 + 25711008708143844408671393477458601640355247900524685364822016 * x13) % pp)).l2), wd ((F5.of ((x5 + 2251799813685248 * x7 + 5070602400912917605986812821504 * x9 + 11417981541647679048466287755595961091061972992 * x11 + 25711008708143844408671393477458601640355247900524685364822016 * x13) % pp)).l3), wd ((F5.of ((x5 + 2251799813685248 * x7 + 5070602400912917605986812821504 * x9 + 11417981541647679048466287755595961091061972992 * x11 + 25711008708143844408671393477458601640355247900524685364822016 * x13) % pp)).l4)] 0 b3 31 (by kernel_rfl) Tryd.isAgg31 Tryd.sizeOf31 (by kernel_rfl))
theorem c_fsub_n (x y : F5) (hx : x.ok) (hy : y.ok) (sx : ¬ x.slim) : Pure Tryd.prog 39 #[F5.v x, F5.v y] ((F5.of (fsb x.val y.val)).v) := by
  refine pure_of Tryd.func39 rfl (fun w0 => ?_)
  refine C_seq ?_
  refine C_region ?_
  refine S_newv (fun nb0 => pt nb0 0) [wd x.l0, wd x.l1, wd x.l2, wd x.l3, wd x.l4] 31 (by kernel_rfl) (fun w _ => by kernel_rfl) ?_
  intro b1 hb1 Hb1
  refine S_newv (fun nb0 => pt nb0 0) [wd y.l0, wd y.l1, wd y.l2, wd y.l3, wd y.l4] 31 (by kernel_rfl) (fun w _ => by kernel_rfl) ?_
  intro b2 hb2 Hb2
  refine S_newv (fun nb0 => pt nb0 0) [.int .u64 0, .int .u64 0, .int .u64 0, .int .u64 0, .int .u64 0] 31 (by kernel_rfl) (fun w _ => by kernel_rfl) ?_
  intro b3 hb3 Hb3
  refine S_nil ?_
  refine E_then ?_
  refine C_seq ?_
  refine C_seq ?_
  refine C_region ?_
  refine S_val (F5.v x) (by kernel_rfl) (ldN [wd x.l0, wd x.l1, wd x.l2, wd x.l3, wd x.l4] 2 b1 0 [wd x.l0, wd x.l1, wd x.l2, wd x.l3, wd x.l4] 31 rfl (by kernel_rfl) Tryd.isAgg31 Tryd.sizeOf31 (by kernel_rfl) (by kernel_rfl)) ?_
  refine S_pure (v := .bool false) (by kernel_rfl) (c_slim_f x hx sx) (fun _ => by kernel_rfl) ?_
  refine S_v (.bool true) ?_
  refine S_v (.bool true) ?_
  refine S_not (by kernel_rfl) ?_
  refine S_not (by kernel_rfl) ?_
  refine S_not (by kernel_rfl) ?_
  refine S_v (.bool true) ?_
  refine S_nil ?_
  refine E_then ?_
  refine C_true (by kernel_rfl) ?_
  refine C_drawn [.held, .held, .held, .held, .eff, .eff] (by kernel_rfl) (by kernel_rfl) ?_
  refine D_held (F5.v x) (by kernel_rfl) (ldN [wd x.l0, wd x.l1, wd x.l2, wd x.l3, wd x.l4] 2 b1 0 [wd x.l0, wd x.l1, wd x.l2, wd x.l3, wd x.l4] 31 rfl (by kernel_rfl) Tryd.isAgg31 Tryd.sizeOf31 (by kernel_rfl) (by kernel_rfl)) ?_
  refine D_pure (v := F5.v (F5.of (x.val % pp))) (by kernel_rfl) (c_fleast x hx) (fun _ => by kernel_rfl) ?_
  refine D_held (F5.v y) (by kernel_rfl) (ldN [wd y.l0, wd y.l1, wd y.l2, wd y.l3, wd y.l4] 1 b2 0 [wd y.l0, wd y.l1, wd y.l2, wd y.l3, wd y.l4] 31 rfl (by kernel_rfl) Tryd.isAgg31 Tryd.sizeOf31 (by kernel_rfl) (by kernel_rfl)) ?_
  refine D_pure (v := F5.v (F5.of (y.val % pp))) (by kernel_rfl) (c_fleast y hy) (fun _ => by kernel_rfl) ?_
  refine D_do (by kernel_rfl) (stN (L' := [⟨b3, [.int .u64 0, .int .u64 0, .int .u64 0, .int .u64 0, .int .u64 0], 31⟩, ⟨b2, [wd y.l0, wd y.l1, wd y.l2, wd y.l3, wd y.l4], 31⟩, ⟨b1, [wd ((F5.of (x.val % pp)).l0), wd ((F5.of (x.val % pp)).l1), wd ((F5.of (x.val % pp)).l2), wd ((F5.of (x.val % pp)).l3), wd ((F5.of (x.val % pp)).l4)], 31⟩]) [wd ((F5.of (x.val % pp)).l0), wd ((F5.of (x.val % pp)).l1), wd ((F5.of (x.val % pp)).l2), wd ((F5.of (x.val % pp)).l3), wd ((F5.of (x.val % pp)).l4)] 2 b1 0 [wd x.l0, wd x.l1, wd x.l2, wd x.l3, wd x.l4] 31 rfl (by kernel_rfl) (by kernel_rfl) Tryd.sizeOf31 (by simp [Value.oneCell']) (by kernel_rfl) (by simp) (by kernel_rfl)) ?_
  refine D_do (by kernel_rfl) (stN (L' := [⟨b3, [.int .u64 0, .int .u64 0, .int .u64 0, .int .u64 0, .int .u64 0], 31⟩, ⟨b2, [wd ((F5.of (y.val % pp)).l0), wd ((F5.of (y.val % pp)).l1), wd ((F5.of (y.val % pp)).l2), wd ((F5.of (y.val % pp)).l3), wd ((F5.of (y.val % pp)).l4)], 31⟩, ⟨b1, [wd ((F5.of (x.val % pp)).l0), wd ((F5.of (x.val % pp)).l1), wd ((F5.of (x.val % pp)).l2), wd ((F5.of (x.val % pp)).l3), wd ((F5.of (x.val % pp)).l4)], 31⟩]) [wd ((F5.of (y.val % pp)).l0), wd ((F5.of (y.val % pp)).l1), wd ((F5.of (y.val % pp)).l2), wd ((F5.of (y.val % pp)).l3), wd ((F5.of (y.val % pp)).l4)] 1 b2 0 [wd y.l0, wd y.l1, wd y.l2, wd y.l3, wd y.l4] 31 rfl (by kernel_rfl) (by kernel_rfl) Tryd.sizeOf31 (by simp [Value.oneCell']) (by kernel_rfl) (by simp) (by kernel_rfl)) ?_
  refine D_nil ?_
  obtain ⟨X, hX⟩ : ∃ q, q = F5.of (x.val % pp) := ⟨_, rfl⟩
  have sX : X.slim := by rw [hX]; exact F5.of_slim _
  have vX : X.val = x.val % pp := by rw [hX]; exact F5.of_val (Nat.lt_trans (Nat.mod_lt _ (by decide)) (by decide))
  rw [← hX]
  obtain ⟨Y, hY⟩ : ∃ q, q = F5.of (y.val % pp) := ⟨_, rfl⟩
  have sY : Y.slim := by rw [hY]; exact F5.of_slim _
  have vY : Y.val = y.val % pp := by rw [hY]; exact F5.of_val (Nat.lt_trans (Nat.mod_lt _ (by decide)) (by decide))
  rw [← hY]
  refine E_forget (fun g => ⟨#[g 0, g 1, pt b1 0, pt b2 0, pt b3 0, g 5, .bool false, .bool true, .bool true, undef, undef, undef, .bool true, g 13, g 14, g 15, g 16, g 17, g 18, g 19, g 20, g 21, g 22, g 23, g 24, g 25, g 26, g 27, g 28, g 29, g 30, g 31, g 32, g 33, g 34, g 35, g 36, g 37, g 38, g 39, g 40, g 41, g 42, g 43, g 44, g 45, g 46, g 47], []⟩) (by kernel_rfl) ?_
  intro g
  refine E_then ?_
  refine C_seq ?_
  refine C_region ?_
  refine S_v (pt b1 0) ?_
  refine S_val (wd X.l0) (by kernel_rfl) (ld1 2 b1 0 [wd X.l0, wd X.l1, wd X.l2, wd X.l3, wd X.l4] 31 rfl (by kernel_rfl) Tryd.isAgg29 (by kernel_rfl) (by kernel_rfl)) ?_
  obtain ⟨x4, hx4, ux4⟩ : ∃ q, q = X.l0 + 4503599627370458 ∧ q ≤ 6755399441055705 := ⟨_, rfl, Nat.add_le_add sX.l0 (Nat.le_refl 4503599627370458)⟩
  refine S_val (wd x4) (by kernel_rfl) (fun _ _ => fv (v := .int .u64 (IntKind.u64.wrap (((X.l0 : Nat) : Int) + 4503599627370458))) ((vint (hx4 ▸ u_add_lt X.l0 4503599627370458 6755399441055705 (hx4 ▸ ux4) (by decide)))) (by kernel_rfl)) ?_
  refine S_v (pt b2 0) ?_
  refine S_val (wd Y.l0) (by kernel_rfl) (ld1 1 b2 0 [wd Y.l0, wd Y.l1, wd Y.l2, wd Y.l3, wd Y.l4] 31 rfl (by kernel_rfl) Tryd.isAgg29 (by kernel_rfl) (by kernel_rfl)) ?_
  obtain ⟨x5, hx5, lx5⟩ : ∃ q, q = (x4 + 18446744073709551616 - Y.l0) % 18446744073709551616 ∧ q < 18446744073709551616 := ⟨_, rfl, Nat.mod_lt _ (by decide)⟩
  refine S_val (wd x5) (by kernel_rfl) (fun _ _ => fv (v := .int .u64 (IntKind.u64.wrap (((x4 : Nat) : Int) - ((Y.l0 : Nat) : Int)))) ((vint (hx5 ▸ u_sub x4 Y.l0 (Nat.le_of_lt (Nat.lt_of_le_of_lt sY.l0 (by decide)))))) (by kernel_rfl)) ?_
  refine S_v (pt b1 1) ?_
  refine S_val (wd X.l1) (by kernel_rfl) (ld1 2 b1 1 [wd X.l0, wd X.l1, wd X.l2, wd X.l3, wd X.l4] 31 rfl (by kernel_rfl) Tryd.isAgg29 (by kernel_rfl) (by kernel_rfl)) ?_
  obtain ⟨x6, hx6, ux6⟩ : ∃ q, q = X.l1 + 4503599627370494 ∧ q ≤ 6755399441055741 := ⟨_, rfl, Nat.add_le_add sX.l1 (Nat.le_refl 4503599627370494)⟩
  refine S_val (wd x6) (by kernel_rfl) (fun _ _ => fv (v := .int .u64 (IntKind.u64.wrap (((X.l1 : Nat) : Int) + 4503599627370494))) ((vint (hx6 ▸ u_add_lt X.l1 4503599627370494 6755399441055741 (hx6 ▸ ux6) (by decide)))) (by kernel_rfl)) ?_
  refine S_v (pt b2 1) ?_
  refine S_val (wd Y.l1) (by kernel_rfl) (ld1 1 b2 1 [wd Y.l0, wd Y.l1, wd Y.l2, wd Y.l3, wd Y.l4] 31 rfl (by kernel_rfl) Tryd.isAgg29 (by kernel_rfl) (by kernel_rfl)) ?_
  obtain ⟨x7, hx7, lx7⟩ : ∃ q, q = (x6 + 18446744073709551616 - Y.l1) % 18446744073709551616 ∧ q < 18446744073709551616 := ⟨_, rfl, Nat.mod_lt _ (by decide)⟩
  refine S_val (wd x7) (by kernel_rfl) (fun _ _ => fv (v := .int .u64 (IntKind.u64.wrap (((x6 : Nat) : Int) - ((Y.l1 : Nat) : Int)))) ((vint (hx7 ▸ u_sub x6 Y.l1 (Nat.le_of_lt (Nat.lt_of_le_of_lt sY.l1 (by decide)))))) (by kernel_rfl)) ?_
  refine S_v (pt b1 2) ?_
  refine S_val (wd X.l2) (by kernel_rfl) (ld1 2 b1 2 [wd X.l0, wd X.l1, wd X.l2, wd X.l3, wd X.l4] 31 rfl (by kernel_rfl) Tryd.isAgg29 (by kernel_rfl) (by kernel_rfl)) ?_
  obtain ⟨x8, hx8, ux8⟩ : ∃ q, q = X.l2 + 4503599627370494 ∧ q ≤ 6755399441055741 := ⟨_, rfl, Nat.add_le_add sX.l2 (Nat.le_refl 4503599627370494)⟩
  refine S_val (wd x8) (by kernel_rfl) (fun _ _ => fv (v := .int .u64 (IntKind.u64.wrap (((X.l2 : Nat) : Int) + 4503599627370494))) ((vint (hx8 ▸ u_add_lt X.l2 4503599627370494 6755399441055741 (hx8 ▸ ux8) (by decide)))) (by kernel_rfl)) ?_
  refine S_v (pt b2 2) ?_
  refine S_val (wd Y.l2) (by kernel_rfl) (ld1 1 b2 2 [wd Y.l0, wd Y.l1, wd Y.l2, wd Y.l3, wd Y.l4] 31 rfl (by kernel_rfl) Tryd.isAgg29 (by kernel_rfl) (by kernel_rfl)) ?_
  obtain ⟨x9, hx9, lx9⟩ : ∃ q, q = (x8 + 18446744073709551616 - Y.l2) % 18446744073709551616 ∧ q < 18446744073709551616 := ⟨_, rfl, Nat.mod_lt _ (by decide)⟩
  refine S_val (wd x9) (by kernel_rfl) (fun _ _ => fv (v := .int .u64 (IntKind.u64.wrap (((x8 : Nat) : Int) - ((Y.l2 : Nat) : Int)))) ((vint (hx9 ▸ u_sub x8 Y.l2 (Nat.le_of_lt (Nat.lt_of_le_of_lt sY.l2 (by decide)))))) (by kernel_rfl)) ?_
  refine S_v (pt b1 3) ?_
  refine S_val (wd X.l3) (by kernel_rfl) (ld1 2 b1 3 [wd X.l0, wd X.l1, wd X.l2, wd X.l3, wd X.l4] 31 rfl (by kernel_rfl) Tryd.isAgg29 (by kernel_rfl) (by kernel_rfl)) ?_
  obtain ⟨x10, hx10, ux10⟩ : ∃ q, q = X.l3 + 4503599627370494 ∧ q ≤ 6755399441055741 := ⟨_, rfl, Nat.add_le_add sX.l3 (Nat.le_refl 4503599627370494)⟩
  refine S_val (wd x10) (by kernel_rfl) (fun _ _ => fv (v := .int .u64 (IntKind.u64.wrap (((X.l3 : Nat) : Int) + 4503599627370494))) ((vint (hx10 ▸ u_add_lt X.l3 4503599627370494 6755399441055741 (hx10 ▸ ux10) (by decide)))) (by kernel_rfl)) ?_
  refine S_v (pt b2 3) ?_
  refine S_val (wd Y.l3) (by kernel_rfl) (ld1 1 b2 3 [wd Y.l0, wd Y.l1, wd Y.l2, wd Y.l3, wd Y.l4] 31 rfl (by kernel_rfl) Tryd.isAgg29 (by kernel_rfl) (by kernel_rfl)) ?_
  obtain ⟨x11, hx11, lx11⟩ : ∃ q, q = (x10 + 18446744073709551616 - Y.l3) % 18446744073709551616 ∧ q < 18446744073709551616 := ⟨_, rfl, Nat.mod_lt _ (by decide)⟩
  refine S_val (wd x11) (by kernel_rfl) (fun _ _ => fv (v := .int .u64 (IntKind.u64.wrap (((x10 : Nat) : Int) - ((Y.l3 : Nat) : Int)))) ((vint (hx11 ▸ u_sub x10 Y.l3 (Nat.le_of_lt (Nat.lt_of_le_of_lt sY.l3 (by decide)))))) (by kernel_rfl)) ?_
  refine S_v (pt b1 4) ?_
  refine S_val (wd X.l4) (by kernel_rfl) (ld1 2 b1 4 [wd X.l0, wd X.l1, wd X.l2, wd X.l3, wd X.l4] 31 rfl (by kernel_rfl) Tryd.isAgg29 (by kernel_rfl) (by kernel_rfl)) ?_
  obtain ⟨x12, hx12, ux12⟩ : ∃ q, q = X.l4 + 4503599627370494 ∧ q ≤ 6755399441055741 := ⟨_, rfl, Nat.add_le_add sX.l4 (Nat.le_refl 4503599627370494)⟩
  refine S_val (wd x12) (by kernel_rfl) (fun _ _ => fv (v := .int .u64 (IntKind.u64.wrap (((X.l4 : Nat) : Int) + 4503599627370494))) ((vint (hx12 ▸ u_add_lt X.l4 4503599627370494 6755399441055741 (hx12 ▸ ux12) (by decide)))) (by kernel_rfl)) ?_
  refine S_v (pt b2 4) ?_
  refine S_val (wd Y.l4) (by kernel_rfl) (ld1 1 b2 4 [wd Y.l0, wd Y.l1, wd Y.l2, wd Y.l3, wd Y.l4] 31 rfl (by kernel_rfl) Tryd.isAgg29 (by kernel_rfl) (by kernel_rfl)) ?_
  obtain ⟨x13, hx13, lx13⟩ : ∃ q, q = (x12 + 18446744073709551616 - Y.l4) % 18446744073709551616 ∧ q < 18446744073709551616 := ⟨_, rfl, Nat.mod_lt _ (by decide)⟩
  refine S_val (wd x13) (by kernel_rfl) (fun _ _ => fv (v := .int .u64 (IntKind.u64.wrap (((x12 : Nat) : Int) - ((Y.l4 : Nat) : Int)))) ((vint (hx13 ▸ u_sub x12 Y.l4 (Nat.le_of_lt (Nat.lt_of_le_of_lt sY.l4 (by decide)))))) (by kernel_rfl)) ?_
  refine S_pure (v := F5.v (F5.of ((x5 + 2251799813685248 * x7 + 5070602400912917605986812821504 * x9 + 11417981541647679048466287755595961091061972992 * x11 + 25711008708143844408671393477458601640355247900524685364822016 * x13) % pp))) (by kernel_rfl) (c_closed x5 x7 x9 x11 x13 (Nat.le_trans (fsub_le (Nat.le_trans ux4 (by decide)) sY.l0 (by omega) hx5) (by decide)) (Nat.le_trans (fsub_le (Nat.le_trans ux6 (by decide)) sY.l1 (by omega) hx7) (by decide)) (Nat.le_trans (fsub_le (Nat.le_trans ux8 (by decide)) sY.l2 (by omega) hx9) (by decide)) (Nat.le_trans (fsub_le (Nat.le_trans ux10 (by decide)) sY.l3 (by omega) hx11) (by decide)) (Nat.le_trans (fsub_le (Nat.le_trans ux12 (by decide)) sY.l4 (by omega) hx13) (by decide))) (fun _ => by kernel_rfl) ?_
  refine S_do (by kernel_rfl) (stN (L' := [⟨b3, [wd ((F5.of ((x5 + 2251799813685248 * x7 + 5070602400912917605986812821504 * x9 + 11417981541647679048466287755595961091061972992 * x11 + 25711008708143844408671393477458601640355247900524685364822016 * x13) % pp)).l0), wd ((F5.of ((x5 + 2251799813685248 * x7 + 5070602400912917605986812821504 * x9 + 11417981541647679048466287755595961091061972992 * x11 + 25711008708143844408671393477458601640355247900524685364822016 * x13) % pp)).l1), wd ((F5.of ((x5 + 2251799813685248 * x7 + 5070602400912917605986812821504 * x9 + 11417981541647679048466287755595961091061972992 * x11 + 25711008708143844408671393477458601640355247900524685364822016 * x13) % pp)).l2), wd ((F5.of ((x5 + 2251799813685248 * x7 + 5070602400912917605986812821504 * x9 + 11417981541647679048466287755595961091061972992 * x11 + 25711008708143844408671393477458601640355247900524685364822016 * x13) % pp)).l3), wd ((F5.of ((x5 + 2251799813685248 * x7 + 5070602400912917605986812821504 * x9 + 11417981541647679048466287755595961091061972992 * x11 + 25711008708143844408671393477458601640355247900524685364822016 * x13) % pp)).l4)], 31⟩, ⟨b2, [wd Y.l0, wd Y.l1, wd Y.l2, wd Y.l3, wd Y.l4], 31⟩, ⟨b1, [wd X.l0, wd X.l1, wd X.l2, wd X.l3, wd X.l4], 31⟩]) [wd ((F5.of ((x5 + 2251799813685248 * x7 + 5070602400912917605986812821504 * x9 + 11417981541647679048466287755595961091061972992 * x11 + 25711008708143844408671393477458601640355247900524685364822016 * x13) % pp)).l0), wd ((F5.of ((x5 + 2251799813685248 * x7 + 5070602400912917605986812821504 * x9 + 11417981541647679048466287755595961091061972992 * x11 + 25711008708143844408671393477458601640355247900524685364822016 * x13) % pp)).l1), wd ((F5.of ((x5 + 2251799813685248 * x7 + 5070602400912917605986812821504 * x9 + 11417981541647679048466287755595961091061972992 * x11 + 25711008708143844408671393477458601640355247900524685364822016 * x13) % pp)).l2), wd ((F5.of ((x5 + 2251799813685248 * x7 + 5070602400912917605986812821504 * x9 + 11417981541647679048466287755595961091061972992 * x11 + 25711008708143844408671393477458601640355247900524685364822016 * x13) % pp)).l3), wd ((F5.of ((x5 + 2251799813685248 * x7 + 5070602400912917605986812821504 * x9 + 11417981541647679048466287755595961091061972992 * x11 + 25711008708143844408671393477458601640355247900524685364822016 * x13) % pp)).l4)] 0 b3 0 [.int .u64 0, .int .u64 0, .int .u64 0, .int .u64 0, .int .u64 0] 31 rfl (by kernel_rfl) (by kernel_rfl) Tryd.sizeOf31 (by simp [Value.oneCell']) (by kernel_rfl) (by simp) (by kernel_rfl)) ?_
  refine S_nil ?_
  refine E_then ?_
  refine C_ret ?_
  have e : fsb x.val y.val = (x5 + 2251799813685248 * x7 + 5070602400912917605986812821504 * x9 + 11417981541647679048466287755595961091061972992 * x11 + 25711008708143844408671393477458601640355247900524685364822016 * x13) % pp := by rw [show (x5 + 2251799813685248 * x7 + 5070602400912917605986812821504 * x9 + 11417981541647679048466287755595961091061972992 * x11 + 25711008708143844408671393477458601640355247900524685364822016 * x13) % pp = fsb X.val Y.val from fsub_fin (fsub_law sY hx4 hx5 hx6 hx7 hx8 hx9 hx10 hx11 hx12 hx13 sX)]; rw [vX, vY, fsb_mod]
  rw [e]
  exact pure_ret rfl (resC Tryd.results39 [wd ((F5.of ((x5 + 2251799813685248 * x7 + 5070602400912917605986812821504 * x9 + 11417981541647679048466287755595961091061972992 * x11 + 25711008708143844408671393477458601640355247900524685364822016 * x13) % pp)).l0), wd ((F5.of ((x5 + 2251799813685248 * x7 + 5070602400912917605986812821504 * x9 + 11417981541647679048466287755595961091061972992 * x11 + 25711008708143844408671393477458601640355247900524685364822016 * x13) % pp)).l1), wd ((F5.of ((x5 + 2251799813685248 * x7 + 5070602400912917605986812821504 * x9 + 11417981541647679048466287755595961091061972992 * x11 + 25711008708143844408671393477458601640355247900524685364822016 * x13) % pp)).l2), wd ((F5.of ((x5 + 2251799813685248 * x7 + 5070602400912917605986812821504 * x9 + 11417981541647679048466287755595961091061972992 * x11 + 25711008708143844408671393477458601640355247900524685364822016 * x13) % pp)).l3), wd ((F5.of ((x5 + 2251799813685248 * x7 + 5070602400912917605986812821504 * x9 + 11417981541647679048466287755595961091061972992 * x11 + 25711008708143844408671393477458601640355247900524685364822016 * x13) % pp)).l4)] 0 b3 31 (by kernel_rfl) Tryd.isAgg31 Tryd.sizeOf31 (by kernel_rfl))
theorem c_fsub (x y : F5) (hx : x.ok) (hy : y.ok) : Pure Tryd.prog 39 #[x.v, y.v] ((F5.of (fsb x.val y.val)).v) := by
  by_cases sx : x.slim
  · by_cases sy : y.slim
    · exact c_fsub_ss x y hx hy sx sy
    · exact c_fsub_sn x y hx hy sx sy
  · exact c_fsub_n x y hx hy sx
end Go.Vk
