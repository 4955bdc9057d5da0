/- What functions of the program do: walks, printed by a program of my own. -/
import Derived.Test.YtalnkpdahpjmmaaDoorDFe
set_option linter.unusedVariables false
set_option linter.unusedSimpArgs false
namespace Go.Vk
open Go Go.RowKit Go.Proofs Go.Vk.Num
set_option linter.unusedVariables false
theorem c_fmul_ss (x y : F5) (hx : x.ok) (hy : y.ok) (sx : x.slim) (sy : y.slim) : Pure Tryd.prog 18 #[F5.v x, F5.v y] ((F5.of ((x.val * y.val) % pp)).v) := by
  refine pure_of Tryd.func18 rfl (fun w0 => ?_)
  refine C_seq ?_
  refine C_region ?_
  refine S_newv (fun nb0 => pt nb0 0) [wd x.l0, wd x.l1, wd x.l2, wd x.l3, wd x.l4] 31 (by kernel_rfl) (fun w _ => by kernel_rfl) ?_
  intro b1 hb1 Hb1
  refine S_newv (fun nb0 => pt nb0 0) [wd y.l0, wd y.l1, wd y.l2, wd y.l3, wd y.l4] 31 (by kernel_rfl) (fun w _ => by kernel_rfl) ?_
  intro b2 hb2 Hb2
  refine S_newv (fun nb0 => pt nb0 0) [.int .u64 0, .int .u64 0, .int .u64 0, .int .u64 0, .int .u64 0] 31 (by kernel_rfl) (fun w _ => by kernel_rfl) ?_
  intro b3 hb3 Hb3
  refine S_nil ?_
  refine E_then ?_
  refine C_seq ?_
  refine C_seq ?_
  refine C_region ?_
  refine S_val (F5.v x) (by kernel_rfl) (ldN [wd x.l0, wd x.l1, wd x.l2, wd x.l3, wd x.l4] 2 b1 0 [wd x.l0, wd x.l1, wd x.l2, wd x.l3, wd x.l4] 31 rfl (by kernel_rfl) Tryd.isAgg31 Tryd.sizeOf31 (by kernel_rfl) (by kernel_rfl)) ?_
  refine S_pure (v := .bool true) (by kernel_rfl) (c_slim_t x sx) (fun _ => by kernel_rfl) ?_
  refine S_v (.bool false) ?_
  refine S_v (.bool false) ?_
  refine S_val (F5.v y) (by kernel_rfl) (ldN [wd y.l0, wd y.l1, wd y.l2, wd y.l3, wd y.l4] 1 b2 0 [wd y.l0, wd y.l1, wd y.l2, wd y.l3, wd y.l4] 31 rfl (by kernel_rfl) Tryd.isAgg31 Tryd.sizeOf31 (by kernel_rfl) (by kernel_rfl)) ?_
  refine S_pure (v := .bool true) (by kernel_rfl) (c_slim_t y sy) (fun _ => by kernel_rfl) ?_
  refine S_v (.bool false) ?_
  refine S_v (.bool false) ?_
  refine S_nil ?_
  refine E_then ?_
  refine C_false (by kernel_rfl) ?_
  refine C_skip ?_
  refine E_then ?_
  refine C_seq ?_
  refine C_drawn [.pure, .held, .pure, .held, .pure, .held, .pure, .held, .pure, .held, .pure, .pure, .pure, .pure, .pure] (by kernel_rfl) (by kernel_rfl) ?_
  refine D_v (pt b1 0) ?_
  refine D_held (wd x.l0) (by kernel_rfl) (ld1 2 b1 0 [wd x.l0, wd x.l1, wd x.l2, wd x.l3, wd x.l4] 31 rfl (by kernel_rfl) Tryd.isAgg29 (by kernel_rfl) (by kernel_rfl)) ?_
  refine D_v (pt b1 1) ?_
  refine D_held (wd x.l1) (by kernel_rfl) (ld1 2 b1 1 [wd x.l0, wd x.l1, wd x.l2, wd x.l3, wd x.l4] 31 rfl (by kernel_rfl) Tryd.isAgg29 (by kernel_rfl) (by kernel_rfl)) ?_
  refine D_v (pt b1 2) ?_
  refine D_held (wd x.l2) (by kernel_rfl) (ld1 2 b1 2 [wd x.l0, wd x.l1, wd x.l2, wd x.l3, wd x.l4] 31 rfl (by kernel_rfl) Tryd.isAgg29 (by kernel_rfl) (by kernel_rfl)) ?_
  refine D_v (pt b1 3) ?_
  refine D_held (wd x.l3) (by kernel_rfl) (ld1 2 b1 3 [wd x.l0, wd x.l1, wd x.l2, wd x.l3, wd x.l4] 31 rfl (by kernel_rfl) Tryd.isAgg29 (by kernel_rfl) (by kernel_rfl)) ?_
  refine D_v (pt b1 4) ?_
  refine D_held (wd x.l4) (by kernel_rfl) (ld1 2 b1 4 [wd x.l0, wd x.l1, wd x.l2, wd x.l3, wd x.l4] 31 rfl (by kernel_rfl) Tryd.isAgg29 (by kernel_rfl) (by kernel_rfl)) ?_
  refine D_v (wd x.l0) ?_
  refine D_v (wd x.l1) ?_
  refine D_v (wd x.l2) ?_
  refine D_v (wd x.l3) ?_
  refine D_v (wd x.l4) ?_
  refine D_nil ?_
  refine E_then ?_
  refine C_seq ?_
  refine C_drawn [.pure, .held, .pure, .held, .pure, .held, .pure, .held, .pure, .held, .pure, .pure, .pure, .pure, .pure] (by kernel_rfl) (by kernel_rfl) ?_
  refine D_v (pt b2 0) ?_
  refine D_held (wd y.l0) (by kernel_rfl) (ld1 1 b2 0 [wd y.l0, wd y.l1, wd y.l2, wd y.l3, wd y.l4] 31 rfl (by kernel_rfl) Tryd.isAgg29 (by kernel_rfl) (by kernel_rfl)) ?_
  refine D_v (pt b2 1) ?_
  refine D_held (wd y.l1) (by kernel_rfl) (ld1 1 b2 1 [wd y.l0, wd y.l1, wd y.l2, wd y.l3, wd y.l4] 31 rfl (by kernel_rfl) Tryd.isAgg29 (by kernel_rfl) (by kernel_rfl)) ?_
  refine D_v (pt b2 2) ?_
  refine D_held (wd y.l2) (by kernel_rfl) (ld1 1 b2 2 [wd y.l0, wd y.l1, wd y.l2, wd y.l3, wd y.l4] 31 rfl (by kernel_rfl) Tryd.isAgg29 (by kernel_rfl) (by kernel_rfl)) ?_
  refine D_v (pt b2 3) ?_
  refine D_held (wd y.l3) (by kernel_rfl) (ld1 1 b2 3 [wd y.l0, wd y.l1, wd y.l2, wd y.l3, wd y.l4] 31 rfl (by kernel_rfl) Tryd.isAgg29 (by kernel_rfl) (by kernel_rfl)) ?_
  refine D_v (pt b2 4) ?_
  refine D_held (wd y.l4) (by kernel_rfl) (ld1 1 b2 4 [wd y.l0, wd y.l1, wd y.l2, wd y.l3, wd y.l4] 31 rfl (by kernel_rfl) Tryd.isAgg29 (by kernel_rfl) (by kernel_rfl)) ?_
  refine D_v (wd y.l0) ?_
  refine D_v (wd y.l1) ?_
  refine D_v (wd y.l2) ?_
  refine D_v (wd y.l3) ?_
  refine D_v (wd y.l4) ?_
  refine D_nil ?_
  refine E_then ?_
  refine C_seq ?_
  refine C_region ?_
  refine S_v (wd x.l1) ?_
  obtain ⟨x4, hx4, ux4⟩ : ∃ q, q = 19 * x.l1 ∧ q ≤ 42784196460019693 := ⟨_, rfl, Nat.mul_le_mul (Nat.le_refl 19) sx.l1⟩
  refine S_val (wd x4) (by kernel_rfl) (fun _ _ => fv (v := .int .u64 (IntKind.u64.wrap (19 * ((x.l1 : Nat) : Int)))) ((vint (hx4 ▸ u_mul_lt 19 x.l1 42784196460019693 (hx4 ▸ ux4) (by decide)))) (by kernel_rfl)) ?_
  refine S_v (wd x.l2) ?_
  obtain ⟨x5, hx5, ux5⟩ : ∃ q, q = 19 * x.l2 ∧ q ≤ 42784196460019693 := ⟨_, rfl, Nat.mul_le_mul (Nat.le_refl 19) sx.l2⟩
  refine S_val (wd x5) (by kernel_rfl) (fun _ _ => fv (v := .int .u64 (IntKind.u64.wrap (19 * ((x.l2 : Nat) : Int)))) ((vint (hx5 ▸ u_mul_lt 19 x.l2 42784196460019693 (hx5 ▸ ux5) (by decide)))) (by kernel_rfl)) ?_
  refine S_v (wd x.l3) ?_
  obtain ⟨x6, hx6, ux6⟩ : ∃ q, q = 19 * x.l3 ∧ q ≤ 42784196460019693 := ⟨_, rfl, Nat.mul_le_mul (Nat.le_refl 19) sx.l3⟩
  refine S_val (wd x6) (by kernel_rfl) (fun _ _ => fv (v := .int .u64 (IntKind.u64.wrap (19 * ((x.l3 : Nat) : Int)))) ((vint (hx6 ▸ u_mul_lt 19 x.l3 42784196460019693 (hx6 ▸ ux6) (by decide)))) (by kernel_rfl)) ?_
  refine S_v (wd x.l4) ?_
  obtain ⟨x7, hx7, ux7⟩ : ∃ q, q = 19 * x.l4 ∧ q ≤ 42784196460019693 := ⟨_, rfl, Nat.mul_le_mul (Nat.le_refl 19) sx.l4⟩
  refine S_val (wd x7) (by kernel_rfl) (fun _ _ => fv (v := .int .u64 (IntKind.u64.wrap (19 * ((x.l4 : Nat) : Int)))) ((vint (hx7 ▸ u_mul_lt 19 x.l4 42784196460019693 (hx7 ▸ ux7) (by decide)))) (by kernel_rfl)) ?_
  refine S_v (wd x4) ?_
  refine S_v (wd x5) ?_
  refine S_v (wd x6) ?_
  refine S_v (wd x7) ?_
  refine S_nil ?_
  refine E_then ?_
  refine C_seq ?_
  refine C_region ?_
  refine S_v (.agg #[.int .u64 0, .int .u64 0]) ?_
  refine S_v (wd x.l0) ?_
  refine S_v (wd y.l0) ?_
  obtain ⟨d8, hd8, ud8, pd8⟩ := dplus_ex 0 x.l0 y.l0 0 2251799813685247 2251799813685247 5070602400912913102387185451009 (Nat.le_refl 0) sx.l0 sy.l0 (by decide) (by decide) (by decide) (by decide)
  refine S_pure (v := dv d8) (by kernel_rfl) pd8 (fun _ => by kernel_rfl) ?_
  refine S_v (wd x4) ?_
  refine S_v (wd y.l4) ?_
  obtain ⟨d9, hd9, ud9, pd9⟩ := dplus_ex d8 x4 y.l4 5070602400912913102387185451009 42784196460019693 2251799813685247 101412048018258262047743709020180 ud8 ux4 sy.l4 (by decide) (by decide) (by decide) (by decide)
  refine S_pure (v := dv d9) (by kernel_rfl) pd9 (fun _ => by kernel_rfl) ?_
  refine S_v (wd x5) ?_
  refine S_v (wd y.l3) ?_
  obtain ⟨d10, hd10, ud10, pd10⟩ := dplus_ex d9 x5 y.l3 101412048018258262047743709020180 42784196460019693 2251799813685247 197753493635603610993100232589351 ud9 ux5 sy.l3 (by decide) (by decide) (by decide) (by decide)
  refine S_pure (v := dv d10) (by kernel_rfl) pd10 (fun _ => by kernel_rfl) ?_
  refine S_v (wd x6) ?_
  refine S_v (wd y.l2) ?_
  obtain ⟨d11, hd11, ud11, pd11⟩ := dplus_ex d10 x6 y.l2 197753493635603610993100232589351 42784196460019693 2251799813685247 294094939252948959938456756158522 ud10 ux6 sy.l2 (by decide) (by decide) (by decide) (by decide)
  refine S_pure (v := dv d11) (by kernel_rfl) pd11 (fun _ => by kernel_rfl) ?_
  refine S_v (wd x7) ?_
  refine S_v (wd y.l1) ?_
  obtain ⟨d12, hd12, ud12, pd12⟩ := dplus_ex d11 x7 y.l1 294094939252948959938456756158522 42784196460019693 2251799813685247 390436384870294308883813279727693 ud11 ux7 sy.l1 (by decide) (by decide) (by decide) (by decide)
  refine S_pure (v := dv d12) (by kernel_rfl) pd12 (fun _ => by kernel_rfl) ?_
  refine S_newv (fun nb0 => pt nb0 0) [.int .u64 0, .int .u64 0] 79 (by kernel_rfl) (fun w _ => by kernel_rfl) ?_
  intro b13 hb13 Hb13
  refine S_do (by kernel_rfl) (stN (L' := [⟨b13, [wd (hD d12), wd (lD d12)], 79⟩, ⟨b3, [.int .u64 0, .int .u64 0, .int .u64 0, .int .u64 0, .int .u64 0], 31⟩, ⟨b2, [wd y.l0, wd y.l1, wd y.l2, wd y.l3, wd y.l4], 31⟩, ⟨b1, [wd x.l0, wd x.l1, wd x.l2, wd x.l3, wd x.l4], 31⟩]) [wd (hD d12), wd (lD d12)] 0 b13 0 [.int .u64 0, .int .u64 0] 79 rfl (by kernel_rfl) (by kernel_rfl) Tryd.sizeOf79 (by simp [Value.oneCell']) (by kernel_rfl) (by simp) (by kernel_rfl)) ?_
  refine S_nil ?_
  refine E_then ?_
  refine C_seq ?_
  refine C_region ?_
  refine S_v (.agg #[.int .u64 0, .int .u64 0]) ?_
  refine S_v (wd x.l0) ?_
  refine S_v (wd y.l1) ?_
  obtain ⟨d14, hd14, ud14, pd14⟩ := dplus_ex 0 x.l0 y.l1 0 2251799813685247 2251799813685247 5070602400912913102387185451009 (Nat.le_refl 0) sx.l0 sy.l1 (by decide) (by decide) (by decide) (by decide)
  refine S_pure (v := dv d14) (by kernel_rfl) pd14 (fun _ => by kernel_rfl) ?_
  refine S_v (wd x.l1) ?_
  refine S_v (wd y.l0) ?_
  obtain ⟨d15, hd15, ud15, pd15⟩ := dplus_ex d14 x.l1 y.l0 5070602400912913102387185451009 2251799813685247 2251799813685247 10141204801825826204774370902018 ud14 sx.l1 sy.l0 (by decide) (by decide) (by decide) (by decide)
  refine S_pure (v := dv d15) (by kernel_rfl) pd15 (fun _ => by kernel_rfl) ?_
  refine S_v (wd x5) ?_
  refine S_v (wd y.l4) ?_
  obtain ⟨d16, hd16, ud16, pd16⟩ := dplus_ex d15 x5 y.l4 10141204801825826204774370902018 42784196460019693 2251799813685247 106482650419171175150130894471189 ud15 ux5 sy.l4 (by decide) (by decide) (by decide) (by decide)
  refine S_pure (v := dv d16) (by kernel_rfl) pd16 (fun _ => by kernel_rfl) ?_
  refine S_v (wd x6) ?_
  refine S_v (wd y.l3) ?_
  obtain ⟨d17, hd17, ud17, pd17⟩ := dplus_ex d16 x6 y.l3 106482650419171175150130894471189 42784196460019693 2251799813685247 202824096036516524095487418040360 ud16 ux6 sy.l3 (by decide) (by decide) (by decide) (by decide)
  refine S_pure (v := dv d17) (by kernel_rfl) pd17 (fun _ => by kernel_rfl) ?_
  refine S_v (wd x7) ?_
  refine S_v (wd y.l2) ?_
  obtain ⟨d18, hd18, ud18, pd18⟩ := dplus_ex d17 x7 y.l2 202824096036516524095487418040360 42784196460019693 2251799813685247 299165541653861873040843941609531 ud17 ux7 sy.l2 (by decide) (by decide) (by decide) (by decide)
  refine S_pure (v := dv d18) (by kernel_rfl) pd18 (fun _ => by kernel_rfl) ?_
  refine S_newv (fun nb0 => pt nb0 0) [.int .u64 0, .int .u64 0] 79 (by kernel_rfl) (fun w _ => by kernel_rfl) ?_
  intro b19 hb19 Hb19
  refine S_do (by kernel_rfl) (stN (L' := [⟨b19, [wd (hD d18), wd (lD d18)], 79⟩, ⟨b13, [wd (hD d12), wd (lD d12)], 79⟩, ⟨b3, [.int .u64 0, .int .u64 0, .int .u64 0, .int .u64 0, .int .u64 0], 31⟩, ⟨b2, [wd y.l0, wd y.l1, wd y.l2, wd y.l3, wd y.l4], 31⟩, ⟨b1, [wd x.l0, wd x.l1, wd x.l2, wd x.l3, wd x.l4], 31⟩]) [wd (hD d18), wd (lD d18)] 0 b19 0 [.int .u64 0, .int .u64 0] 79 rfl (by kernel_rfl) (by kernel_rfl) Tryd.sizeOf79 (by simp [Value.oneCell']) (by kernel_rfl) (by simp) (by kernel_rfl)) ?_
  refine S_nil ?_
  refine E_then ?_
  refine C_seq ?_
  refine C_region ?_
  refine S_v (.agg #[.int .u64 0, .int .u64 0]) ?_
  refine S_v (wd x.l0) ?_
  refine S_v (wd y.l2) ?_
  obtain ⟨d20, hd20, ud20, pd20⟩ := dplus_ex 0 x.l0 y.l2 0 2251799813685247 2251799813685247 5070602400912913102387185451009 (Nat.le_refl 0) sx.l0 sy.l2 (by decide) (by decide) (by decide) (by decide)
  refine S_pure (v := dv d20) (by kernel_rfl) pd20 (fun _ => by kernel_rfl) ?_
  refine S_v (wd x.l1) ?_
  refine S_v (wd y.l1) ?_
  obtain ⟨d21, hd21, ud21, pd21⟩ := dplus_ex d20 x.l1 y.l1 5070602400912913102387185451009 2251799813685247 2251799813685247 10141204801825826204774370902018 ud20 sx.l1 sy.l1 (by decide) (by decide) (by decide) (by decide)
  refine S_pure (v := dv d21) (by kernel_rfl) pd21 (fun _ => by kernel_rfl) ?_
  refine S_v (wd x.l2) ?_
  refine S_v (wd y.l0) ?_
  obtain ⟨d22, hd22, ud22, pd22⟩ := dplus_ex d21 x.l2 y.l0 10141204801825826204774370902018 2251799813685247 2251799813685247 15211807202738739307161556353027 ud21 sx.l2 sy.l0 (by decide) (by decide) (by decide) (by decide)
  refine S_pure (v := dv d22) (by kernel_rfl) pd22 (fun _ => by kernel_rfl) ?_
  refine S_v (wd x6) ?_
  refine S_v (wd y.l4) ?_
  obtain ⟨d23, hd23, ud23, pd23⟩ := dplus_ex d22 x6 y.l4 15211807202738739307161556353027 42784196460019693 2251799813685247 111553252820084088252518079922198 ud22 ux6 sy.l4 (by decide) (by decide) (by decide) (by decide)
  refine S_pure (v := dv d23) (by kernel_rfl) pd23 (fun _ => by kernel_rfl) ?_
  refine S_v (wd x7) ?_
  refine S_v (wd y.l3) ?_
  obtain ⟨d24, hd24, ud24, pd24⟩ := dplus_ex d23 x7 y.l3 111553252820084088252518079922198 42784196460019693 2251799813685247 207894698437429437197874603491369 ud23 ux7 sy.l3 (by decide) (by decide) (by decide) (by decide)
  refine S_pure (v := dv d24) (by kernel_rfl) pd24 (fun _ => by kernel_rfl) ?_
  refine S_newv (fun nb0 => pt nb0 0) [.int .u64 0, .int .u64 0] 79 (by kernel_rfl) (fun w _ => by kernel_rfl) ?_
  intro b25 hb25 Hb25
  refine S_do (by kernel_rfl) (stN (L' := [⟨b25, [wd (hD d24), wd (lD d24)], 79⟩, ⟨b19, [wd (hD d18), wd (lD d18)], 79⟩, ⟨b13, [wd (hD d12), wd (lD d12)], 79⟩, ⟨b3, [.int .u64 0, .int .u64 0, .int .u64 0, .int .u64 0, .int .u64 0], 31⟩, ⟨b2, [wd y.l0, wd y.l1, wd y.l2, wd y.l3, wd y.l4], 31⟩, ⟨b1, [wd x.l0, wd x.l1, wd x.l2, wd x.l3, wd x.l4], 31⟩]) [wd (hD d24), wd (lD d24)] 0 b25 0 [.int .u64 0, .int .u64 0] 79 rfl (by kernel_rfl) (by kernel_rfl) Tryd.sizeOf79 (by simp [Value.oneCell']) (by kernel_rfl) (by simp) (by kernel_rfl)) ?_
  refine S_nil ?_
  refine E_then ?_
  refine C_seq ?_
  refine C_region ?_
  refine S_v (.agg #[.int .u64 0, .int .u64 0]) ?_
  refine S_v (wd x.l0) ?_
  refine S_v (wd y.l3) ?_
  obtain ⟨d26, hd26, ud26, pd26⟩ := dplus_ex 0 x.l0 y.l3 0 2251799813685247 2251799813685247 5070602400912913102387185451009 (Nat.le_refl 0) sx.l0 sy.l3 (by decide) (by decide) (by decide) (by decide)
  refine S_pure (v := dv d26) (by kernel_rfl) pd26 (fun _ => by kernel_rfl) ?_
  refine S_v (wd x.l1) ?_
  refine S_v (wd y.l2) ?_
  obtain ⟨d27, hd27, ud27, pd27⟩ := dplus_ex d26 x.l1 y.l2 5070602400912913102387185451009 2251799813685247 2251799813685247 10141204801825826204774370902018 ud26 sx.l1 sy.l2 (by decide) (by decide) (by decide) (by decide)
  refine S_pure (v := dv d27) (by kernel_rfl) pd27 (fun _ => by kernel_rfl) ?_
  refine S_v (wd x.l2) ?_
  refine S_v (wd y.l1) ?_
  obtain ⟨d28, hd28, ud28, pd28⟩ := dplus_ex d27 x.l2 y.l1 10141204801825826204774370902018 2251799813685247 2251799813685247 15211807202738739307161556353027 ud27 sx.l2 sy.l1 (by decide) (by decide) (by decide) (by decide)
  refine S_pure (v := dv d28) (by kernel_rfl) pd28 (fun _ => by kernel_rfl) ?_
  refine S_v (wd x.l3) ?_
  refine S_v (wd y.l0) ?_
  obtain ⟨d29, hd29, ud29, pd29⟩ := dplus_ex d28 x.l3 y.l0 15211807202738739307161556353027 2251799813685247 2251799813685247 20282409603651652409548741804036 ud28 sx.l3 sy.l0 (by decide) (by decide) (by decide) (by decide)
  refine S_pure (v := dv d29) (by kernel_rfl) pd29 (fun _ => by kernel_rfl) ?_
  refine S_v (wd x7) ?_
  refine S_v (wd y.l4) ?_
  obtain ⟨d30, hd30, ud30, pd30⟩ := dplus_ex d29 x7 y.l4 20282409603651652409548741804036 42784196460019693 2251799813685247 116623855220997001354905265373207 ud29 ux7 sy.l4 (by decide) (by decide) (by decide) (by decide)
  refine S_pure (v := dv d30) (by kernel_rfl) pd30 (fun _ => by kernel_rfl) ?_
  refine S_newv (fun nb0 => pt nb0 0) [.int .u64 0, .int .u64 0] 79 (by kernel_rfl) (fun w _ => by kernel_rfl) ?_
  intro b31 hb31 Hb31
  refine S_do (by kernel_rfl) (stN (L' := [⟨b31, [wd (hD d30), wd (lD d30)], 79⟩, ⟨b25, [wd (hD d24), wd (lD d24)], 79⟩, ⟨b19, [wd (hD d18), wd (lD d18)], 79⟩, ⟨b13, [wd (hD d12), wd (lD d12)], 79⟩, ⟨b3, [.int .u64 0, .int .u64 0, .int .u64 0, .int .u64 0, .int .u64 0], 31⟩, ⟨b2, [wd y.l0, wd y.l1, wd y.l2, wd y.l3, wd y.l4], 31⟩, ⟨b1, [wd x.l0, wd x.l1, wd x.l2, wd x.l3, wd x.l4], 31⟩]) [wd (hD d30), wd (lD d30)] 0 b31 0 [.int .u64 0, .int .u64 0] 79 rfl (by kernel_rfl) (by kernel_rfl) Tryd.sizeOf79 (by simp [Value.oneCell']) (by kernel_rfl) (by simp) (by kernel_rfl)) ?_
  refine S_nil ?_
  refine E_then ?_
  refine C_seq ?_
  refine C_region ?_
  refine S_v (.agg #[.int .u64 0, .int .u64 0]) ?_
  refine S_v (wd x.l0) ?_
  refine S_v (wd y.l4) ?_
  obtain ⟨d32, hd32, ud32, pd32⟩ := dplus_ex 0 x.l0 y.l4 0 2251799813685247 2251799813685247 5070602400912913102387185451009 (Nat.le_refl 0) sx.l0 sy.l4 (by decide) (by decide) (by decide) (by decide)
  refine S_pure (v := dv d32) (by kernel_rfl) pd32 (fun _ => by kernel_rfl) ?_
  refine S_v (wd x.l1) ?_
  refine S_v (wd y.l3) ?_
  obtain ⟨d33, hd33, ud33, pd33⟩ := dplus_ex d32 x.l1 y.l3 5070602400912913102387185451009 2251799813685247 2251799813685247 10141204801825826204774370902018 ud32 sx.l1 sy.l3 (by decide) (by decide) (by decide) (by decide)
  refine S_pure (v := dv d33) (by kernel_rfl) pd33 (fun _ => by kernel_rfl) ?_
  refine S_v (wd x.l2) ?_
  refine S_v (wd y.l2) ?_
  obtain ⟨d34, hd34, ud34, pd34⟩ := dplus_ex d33 x.l2 y.l2 10141204801825826204774370902018 2251799813685247 2251799813685247 15211807202738739307161556353027 ud33 sx.l2 sy.l2 (by decide) (by decide) (by decide) (by decide)
  refine S_pure (v := dv d34) (by kernel_rfl) pd34 (fun _ => by kernel_rfl) ?_
  refine S_v (wd x.l3) ?_
  refine S_v (wd y.l1) ?_
  obtain ⟨d35, hd35, ud35, pd35⟩ := dplus_ex d34 x.l3 y.l1 15211807202738739307161556353027 2251799813685247 2251799813685247 20282409603651652409548741804036 ud34 sx.l3 sy.l1 (by decide) (by decide) (by decide) (by decide)
  refine S_pure (v := dv d35) (by kernel_rfl) pd35 (fun _ => by kernel_rfl) ?_
  refine S_v (wd x.l4) ?_
  refine S_v (wd y.l0) ?_
  obtain ⟨d36, hd36, ud36, pd36⟩ := dplus_ex d35 x.l4 y.l0 20282409603651652409548741804036 2251799813685247 2251799813685247 25353012004564565511935927255045 ud35 sx.l4 sy.l0 (by decide) (by decide) (by decide) (by decide)
  refine S_pure (v := dv d36) (by kernel_rfl) pd36 (fun _ => by kernel_rfl) ?_
  refine S_newv (fun nb0 => pt nb0 0) [.int .u64 0, .int .u64 0] 79 (by kernel_rfl) (fun w _ => by kernel_rfl) ?_
  intro b37 hb37 Hb37
  refine S_do (by kernel_rfl) (stN (L' := [⟨b37, [wd (hD d36), wd (lD d36)], 79⟩, ⟨b31, [wd (hD d30), wd (lD d30)], 79⟩, ⟨b25, [wd (hD d24), wd (lD d24)], 79⟩, ⟨b19, [wd (hD d18), wd (lD d18)], 79⟩, ⟨b13, [wd (hD d12), wd (lD d12)], 79⟩, ⟨b3, [.int .u64 0, .int .u64 0, .int .u64 0, .int .u64 0, .int .u64 0], 31⟩, ⟨b2, [wd y.l0, wd y.l1, wd y.l2, wd y.l3, wd y.l4], 31⟩, ⟨b1, [wd x.l0, wd x.l1, wd x.l2, wd x.l3, wd x.l4], 31⟩]) [wd (hD d36), wd (lD d36)] 0 b37 0 [.int .u64 0, .int .u64 0] 79 rfl (by kernel_rfl) (by kernel_rfl) Tryd.sizeOf79 (by simp [Value.oneCell']) (by kernel_rfl) (by simp) (by kernel_rfl)) ?_
  refine S_nil ?_
  refine E_then ?_
  refine C_seq ?_
  refine C_region ?_
  refine S_val (dv d12) (by kernel_rfl) (ldN [wd (hD d12), wd (lD d12)] 4 b13 0 [wd (hD d12), wd (lD d12)] 79 rfl (by kernel_rfl) Tryd.isAgg79 Tryd.sizeOf79 (by kernel_rfl) (by kernel_rfl)) ?_
  refine S_val (dv d18) (by kernel_rfl) (ldN [wd (hD d18), wd (lD d18)] 3 b19 0 [wd (hD d18), wd (lD d18)] 79 rfl (by kernel_rfl) Tryd.isAgg79 Tryd.sizeOf79 (by kernel_rfl) (by kernel_rfl)) ?_
  refine S_val (dv d24) (by kernel_rfl) (ldN [wd (hD d24), wd (lD d24)] 2 b25 0 [wd (hD d24), wd (lD d24)] 79 rfl (by kernel_rfl) Tryd.isAgg79 Tryd.sizeOf79 (by kernel_rfl) (by kernel_rfl)) ?_
  refine S_val (dv d30) (by kernel_rfl) (ldN [wd (hD d30), wd (lD d30)] 1 b31 0 [wd (hD d30), wd (lD d30)] 79 rfl (by kernel_rfl) Tryd.isAgg79 Tryd.sizeOf79 (by kernel_rfl) (by kernel_rfl)) ?_
  refine S_val (dv d36) (by kernel_rfl) (ldN [wd (hD d36), wd (lD d36)] 0 b37 0 [wd (hD d36), wd (lD d36)] 79 rfl (by kernel_rfl) Tryd.isAgg79 Tryd.sizeOf79 (by kernel_rfl) (by kernel_rfl)) ?_
  refine S_pure (v := F5.v (F5.of ((d12 + 2251799813685248 * d18 + 5070602400912917605986812821504 * d24 + 11417981541647679048466287755595961091061972992 * d30 + 25711008708143844408671393477458601640355247900524685364822016 * d36) % pp))) (by kernel_rfl) (c_carried d12 d18 d24 d30 d36 (Nat.le_trans ud12 (by decide)) (Nat.le_trans ud18 (by decide)) (Nat.le_trans ud24 (by decide)) (Nat.le_trans ud30 (by decide)) (Nat.le_trans ud36 (by decide))) (fun _ => by kernel_rfl) ?_
  refine S_do (by kernel_rfl) (stN (L' := [⟨b37, [wd (hD d36), wd (lD d36)], 79⟩, ⟨b31, [wd (hD d30), wd (lD d30)], 79⟩, ⟨b25, [wd (hD d24), wd (lD d24)], 79⟩, ⟨b19, [wd (hD d18), wd (lD d18)], 79⟩, ⟨b13, [wd (hD d12), wd (lD d12)], 79⟩, ⟨b3, [wd ((F5.of ((d12 + 2251799813685248 * d18 + 5070602400912917605986812821504 * d24 + 11417981541647679048466287755595961091061972992 * d30 + 25711008708143844408671393477458601640355247900524685364822016 * d36) % pp)).l0), wd ((F5.of ((d12 + 2251799813685248 * d18 + 5070602400912917605986812821504 * d24 + 11417981541647679048466287755595961091061972992 * d30 + 25711008708143844408671393477458601640355247900524685364822016 * d36) % pp)).l1), wd ((F5.of ((d12 + 2251799813685248 * d18 + 5070602400912917605986812821504 * d24 + 11417981541647679048466287755595961091061972992 * d30 + 25711008708143844408671393477458601640355247900524685364822016 * d36) % pp)).l2), wd ((F5.of ((d12 + 2251799813685248 * d18 + 5070602400912917605986812821504 * d24 + 11417981541647679048466287755595961091061972992 * d30 + 25711008708143844408671393477458601640355247900524685364822016 * d36) % pp)).l3), wd ((F5.of ((d12 + 2251799813685248 * d18 + 5070602400912917605986812821504 * d24 + 11417981541647679048466287755595961091061972992 * d30 + 25711008708143844408671393477458601640355247900524685364822016 * d36) % pp)).l4)], 31⟩, ⟨b2, [wd y.l0, wd y.l1, wd y.l2, wd y.l3, wd y.l4], 31⟩, ⟨b1, [wd x.l0, wd x.l1, wd x.l2, wd x.l3, wd x.l4], 31⟩]) [wd ((F5.of ((d12 + 2251799813685248 * d18 + 5070602400912917605986812821504 * d24 + 11417981541647679048466287755595961091061972992 * d30 + 25711008708143844408671393477458601640355247900524685364822016 * d36) % pp)).l0), wd ((F5.of ((d12 + 2251799813685248 * d18 + 5070602400912917605986812821504 * d24 + 11417981541647679048466287755595961091061972992 * d30 + 25711008708143844408671393477458601640355247900524685364822016 * d36) % pp)).l1), wd ((F5.of ((d12 + 2251799813685248 * d18 + 5070602400912917605986812821504 * d24 + 11417981541647679048466287755595961091061972992 * d30 + 25711008708143844408671393477458601640355247900524685364822016 * d36) % pp)).l2), wd ((F5.of ((d12 + 2251799813685248 * d18 + 5070602400912917605986812821504 * d24 + 11417981541647679048466287755595961091061972992 * d30 + 25711008708143844408671393477458601640355247900524685364822016 * d36) % pp)).l3), wd ((F5.of ((d12 + 2251799813685248 * d18 + 5070602400912917605986812821504 * d24 + 11417981541647679048466287755595961091061972992 * d30 + 25711008708143844408671393477458601640355247900524685364822016 * d36) % pp)).l4)] 5 b3 0 [.int .u64 0, .int .u64 0, .int .u64 0, .int .u64 0, .int .u64 0] 31 rfl (by kernel_rfl) (by kernel_rfl) Tryd.sizeOf31 (by simp [Value.oneCell']) (by kernel_rfl) (by simp) (by kernel_rfl)) ?_
  refine S_nil ?_
  refine E_then ?_
  refine C_ret ?_
  have e : (x.val * y.val) % pp = (d12 + 2251799813685248 * d18 + 5070602400912917605986812821504 * d24 + 11417981541647679048466287755595961091061972992 * d30 + 25711008708143844408671393477458601640355247900524685364822016 * d36) % pp := by rw [show (d12 + 2251799813685248 * d18 + 5070602400912917605986812821504 * d24 + 11417981541647679048466287755595961091061972992 * d30 + 25711008708143844408671393477458601640355247900524685364822016 * d36) % pp = (x.val * y.val) % pp from fmul_law hx4 hx5 hx6 hx7 hd8 hd9 hd10 hd11 hd12 hd14 hd15 hd16 hd17 hd18 hd20 hd21 hd22 hd23 hd24 hd26 hd27 hd28 hd29 hd30 hd32 hd33 hd34 hd35 hd36]
  rw [e]
  exact pure_ret rfl (resC Tryd.results18 [wd ((F5.of ((d12 + 2251799813685248 * d18 + 5070602400912917605986812821504 * d24 + 11417981541647679048466287755595961091061972992 * d30 + 25711008708143844408671393477458601640355247900524685364822016 * d36) % pp)).l0), wd ((F5.of ((d12 + 2251799813685248 * d18 + 5070602400912917605986812821504 * d24 + 11417981541647679048466287755595961091061972992 * d30 + 25711008708143844408671393477458601640355247900524685364822016 * d36) % pp)).l1), wd ((F5.of ((d12 + 2251799813685248 * d18 + 5070602400912917605986812821504 * d24 + 11417981541647679048466287755595961091061972992 * d30 + 25711008708143844408671393477458601640355247900524685364822016 * d36) % pp)).l2), wd ((F5.of ((d12 + 2251799813685248 * d18 + 5070602400912917605986812821504 * d24 + 11417981541647679048466287755595961091061972992 * d30 + 25711008708143844408671393477458601640355247900524685364822016 * d36) % pp)).l3), wd ((F5.of ((d12 + 2251799813685248 * d18 + 5070602400912917605986812821504 * d24 + 11417981541647679048466287755595961091061972992 * d30 + 25711008708143844408671393477458601640355247900524685364822016 * d36) % pp)).l4)] 5 b3 31 (by kernel_rfl) Tryd.isAgg31 Tryd.sizeOf31 (by kernel_rfl))
theorem c_fmul_sn (x y : F5) (hx : x.ok) (hy : y.ok) (sx : x.slim) (sy : ¬ y.slim) : Pure Tryd.prog 18 #[F5.v x, F5.v y] ((F5.of ((x.val * y.val) % pp)).v) := by
  refine pure_of Tryd.func18 rfl (fun w0 => ?_)
  refine C_seq ?_
  refine C_region ?_
  refine S_newv (fun nb0 => pt nb0 0) [wd x.l0, wd x.l1, wd x.l2, wd x.l3, wd x.l4] 31 (by kernel_rfl) (fun w _ => by kernel_rfl) ?_
  intro b1 hb1 Hb1
  refine S_newv (fun nb0 => pt nb0 0) [wd y.l0, wd y.l1, wd y.l2, wd y.l3, wd y.l4] 31 (by kernel_rfl) (fun w _ => by kernel_rfl) ?_
  intro b2 hb2 Hb2
  refine S_newv (fun nb0 => pt nb0 0) [.int .u64 0, .int .u64 0, .int .u64 0, .int .u64 0, .int .u64 0] 31 (by kernel_rfl) (fun w _ => by kernel_rfl) ?_
  intro b3 hb3 Hb3
  refine S_nil ?_
  refine E_then ?_
  refine C_seq ?_
  refine C_seq ?_
  refine C_region ?_
  refine S_val (F5.v x) (by kernel_rfl) (ldN [wd x.l0, wd x.l1, wd x.l2, wd x.l3, wd x.l4] 2 b1 0 [wd x.l0, wd x.l1, wd x.l2, wd x.l3, wd x.l4] 31 rfl (by kernel_rfl) Tryd.isAgg31 Tryd.sizeOf31 (by kernel_rfl) (by kernel_rfl)) ?_
  refine S_pure (v := .bool true) (by kernel_rfl) (c_slim_t x sx) (fun _ => by kernel_rfl) ?_
  refine S_v (.bool false) ?_
  refine S_v (.bool false) ?_
  refine S_val (F5.v y) (by kernel_rfl) (ldN [wd y.l0, wd y.l1, wd y.l2, wd y.l3, wd y.l4] 1 b2 0 [wd y.l0, wd y.l1, wd y.l2, wd y.l3, wd y.l4] 31 rfl (by kernel_rfl) Tryd.isAgg31 Tryd.sizeOf31 (by kernel_rfl) (by kernel_rfl)) ?_
  refine S_pure (v := .bool false) (by kernel_rfl) (c_slim_f y hy sy) (fun _ => by kernel_rfl) ?_
  refine S_v (.bool true) ?_
  refine S_v (.bool true) ?_
  refine S_nil ?_
  refine E_then ?_
  refine C_true (by kernel_rfl) ?_
  refine C_drawn [.held, .held, .held, .held, .eff, .eff] (by kernel_rfl) (by kernel_rfl) ?_
  refine D_held (F5.v x) (by kernel_rfl) (ldN [wd x.l0, wd x.l1, wd x.l2, wd x.l3, wd x.l4] 2 b1 0 [wd x.l0, wd x.l1, wd x.l2, wd x.l3, wd x.l4] 31 rfl (by kernel_rfl) Tryd.isAgg31 Tryd.sizeOf31 (by kernel_rfl) (by kernel_rfl)) ?_
  refine D_pure (v := F5.v (F5.of (x.val % pp))) (by kernel_rfl) (c_fleast x hx) (fun _ => by kernel_rfl) ?_
  refine D_held (F5.v y) (by kernel_rfl) (ldN [wd y.l0, wd y.l1, wd y.l2, wd y.l3, wd y.l4] 1 b2 0 [wd y.l0, wd y.l1, wd y.l2, wd y.l3, wd y.l4] 31 rfl (by kernel_rfl) Tryd.isAgg31 Tryd.sizeOf31 (by kernel_rfl) (by kernel_rfl)) ?_
  refine D_pure (v := F5.v (F5.of (y.val % pp))) (by kernel_rfl) (c_fleast y hy) (fun _ => by kernel_rfl) ?_
  refine D_do (by kernel_rfl) (stN (L' := [⟨b3, [.int .u64 0, .int .u64 0, .int .u64 0, .int .u64 0, .int .u64 0], 31⟩, ⟨b2, [wd y.l0, wd y.l1, wd y.l2, wd y.l3, wd y.l4], 31⟩, ⟨b1, [wd ((F5.of (x.val % pp)).l0), wd ((F5.of (x.val % pp)).l1), wd ((F5.of (x.val % pp)).l2), wd ((F5.of (x.val % pp)).l3), wd ((F5.of (x.val % pp)).l4)], 31⟩]) [wd ((F5.of (x.val % pp)).l0), wd ((F5.of (x.val % pp)).l1), wd ((F5.of (x.val % pp)).l2), wd ((F5.of (x.val % pp)).l3), wd ((F5.of (x.val % pp)).l4)] 2 b1 0 [wd x.l0, wd x.l1, wd x.l2, wd x.l3, wd x.l4] 31 rfl (by kernel_rfl) (by kernel_rfl) Tryd.sizeOf31 (by simp [Value.oneCell']) (by kernel_rfl) (by simp) (by kernel_rfl)) ?_
  refine D_do (by kernel_rfl) (stN (L' := [⟨b3, [.int .u64 0, .int .u64 0, .int .u64 0, .int .u64 0, .int .u64 0], 31⟩, ⟨b2, [wd ((F5.of (y.val % pp)).l0), wd ((F5.of (y.val % pp)).l1), wd ((F5.of (y.val % pp)).l2), wd ((F5.of (y.val % pp)).l3), wd ((F5.of (y.val % pp)).l4)], 31⟩, ⟨b1, [wd ((F5.of (x.val % pp)).l0), wd ((F5.of (x.val % pp)).l1), wd ((F5.of (x.val % pp)).l2), wd ((F5.of (x.val % pp)).l3), wd ((F5.of (x.val % pp)).l4)], 31⟩]) [wd ((F5.of (y.val % pp)).l0), wd ((F5.of (y.val % pp)).l1), wd ((F5.of (y.val % pp)).l2), wd ((F5.of (y.val % pp)).l3), wd ((F5.of (y.val % pp)).l4)] 1 b2 0 [wd y.l0, wd y.l1, wd y.l2, wd y.l3, wd y.l4] 31 rfl (by kernel_rfl) (by kernel_rfl) Tryd.sizeOf31 (by simp [Value.oneCell']) (by kernel_rfl) (by simp) (by kernel_rfl)) ?_
  refine D_nil ?_
  obtain ⟨X, hX⟩ : ∃ q, q = F5.of (x.val % pp) := ⟨_, rfl⟩
  have sX : X.slim := by rw [hX]; exact F5.of_slim _
  have vX : X.val = x.val % pp := by rw [hX]; exact F5.of_val (Nat.lt_trans (Nat.mod_lt _ (by decide)) (by decide))
  rw [← hX]
  obtain ⟨Y, hY⟩ : ∃ q, q = F5.of (y.val % pp) := ⟨_, rfl⟩
  have sY : Y.slim := by rw [hY]; exact F5.of_slim _
  have vY : Y.val = y.val % pp := by rw [hY]; exact F5.of_val (Nat.lt_trans (Nat.mod_lt _ (by decide)) (by decide))
  rw [← hY]
  refine E_forget (fun g => ⟨#[g 0, g 1, pt b1 0, pt b2 0, pt b3 0, g 5, g 6, g 7, g 8, g 9, g 10, g 11, g 12, g 13, g 14, g 15, g 16, g 17, g 18, g 19, g 20, g 21, g 22, g 23, g 24, .bool true, .bool false, .bool false, g 28, .bool false, .bool true, .bool true, g 32, g 33, g 34, g 35, g 36, g 37, g 38, g 39, g 40, g 41, g 42, g 43, g 44, g 45, g 46, g 47, g 48, g 49, g 50, g 51, g 52, g 53, g 54, g 55, g 56, g 57, g 58, g 59, g 60, g 61, g 62, g 63, g 64, g 65, g 66, g 67, g 68, g 69, g 70, g 71, g 72, g 73, g 74, g 75, g 76, g 77, g 78, g 79, g 80, g 81, g 82, g 83, g 84, g 85, g 86, g 87, g 88, g 89, g 90, g 91, g 92, g 93, g 94, g 95, g 96, g 97, g 98, g 99, g 100, g 101, g 102, g 103, g 104, g 105, g 106, g 107, g 108, g 109, g 110, g 111, g 112, g 113, g 114, g 115, g 116, g 117, g 118, g 119, g 120, g 121, g 122, g 123, g 124, g 125, g 126, g 127, g 128, g 129, g 130, g 131, g 132, g 133, g 134, g 135, g 136, g 137, g 138, g 139, g 140, g 141, g 142, g 143, g 144, g 145, g 146, g 147, g 148, g 149], []⟩) (by kernel_rfl) ?_
  intro g
  refine E_then ?_
  refine C_seq ?_
  refine C_drawn [.pure, .held, .pure, .held, .pure, .held, .pure, .held, .pure, .held, .pure, .pure, .pure, .pure, .pure] (by kernel_rfl) (by kernel_rfl) ?_
  refine D_v (pt b1 0) ?_
  refine D_held (wd X.l0) (by kernel_rfl) (ld1 2 b1 0 [wd X.l0, wd X.l1, wd X.l2, wd X.l3, wd X.l4] 31 rfl (by kernel_rfl) Tryd.isAgg29 (by kernel_rfl) (by kernel_rfl)) ?_
  refine D_v (pt b1 1) ?_
  refine D_held (wd X.l1) (by kernel_rfl) (ld1 2 b1 1 [wd X.l0, wd X.l1, wd X.l2, wd X.l3, wd X.l4] 31 rfl (by kernel_rfl) Tryd.isAgg29 (by kernel_rfl) (by kernel_rfl)) ?_
  refine D_v (pt b1 2) ?_
  refine D_held (wd X.l2) (by kernel_rfl) (ld1 2 b1 2 [wd X.l0, wd X.l1, wd X.l2, wd X.l3, wd X.l4] 31 rfl (by kernel_rfl) Tryd.isAgg29 (by kernel_rfl) (by kernel_rfl)) ?_
  refine D_v (pt b1 3) ?_
  refine D_held (wd X.l3) (by kernel_rfl) (ld1 2 b1 3 [wd X.l0, wd X.l1, wd X.l2, wd X.l3, wd X.l4] 31 rfl (by kernel_rfl) Tryd.isAgg29 (by kernel_rfl) (by kernel_rfl)) ?_
  refine D_v (pt b1 4) ?_
  refine D_held (wd X.l4) (by kernel_rfl) (ld1 2 b1 4 [wd X.l0, wd X.l1, wd X.l2, wd X.l3, wd X.l4] 31 rfl (by kernel_rfl) Tryd.isAgg29 (by kernel_rfl) (by kernel_rfl)) ?_
  refine D_v (wd X.l0) ?_
  refine D_v (wd X.l1) ?_
  refine D_v (wd X.l2) ?_
  refine D_v (wd X.l3) ?_
  refine D_v (wd X.l4) ?_
  refine D_nil ?_
  refine E_then ?_
  refine C_seq ?_
  refine C_drawn [.pure, .held, .pure, .held, .pure, .held, .pure, .held, .pure, .held, .pure, .pure, .pure, .pure, .pure] (by kernel_rfl) (by kernel_rfl) ?_
  refine D_v (pt b2 0) ?_
  refine D_held (wd Y.l0) (by kernel_rfl) (ld1 1 b2 0 [wd Y.l0, wd Y.l1, wd Y.l2, wd Y.l3, wd Y.l4] 31 rfl (by kernel_rfl) Tryd.isAgg29 (by kernel_rfl) (by kernel_rfl)) ?_
  refine D_v (pt b2 1) ?_
  refine D_held (wd Y.l1) (by kernel_rfl) (ld1 1 b2 1 [wd Y.l0, wd Y.l1, wd Y.l2, wd Y.l3, wd Y.l4] 31 rfl (by kernel_rfl) Tryd.isAgg29 (by kernel_rfl) (by kernel_rfl)) ?_
  refine D_v (pt b2 2) ?_
  refine D_held (wd Y.l2) (by kernel_rfl) (ld1 1 b2 2 [wd Y.l0, wd Y.l1, wd Y.l2, wd Y.l3, wd Y.l4] 31 rfl (by kernel_rfl) Tryd.isAgg29 (by kernel_rfl) (by kernel_rfl)) ?_
  refine D_v (pt b2 3) ?_
  refine D_held (wd Y.l3) (by kernel_rfl) (ld1 1 b2 3 [wd Y.l0, wd Y.l1, wd Y.l2, wd Y.l3, wd Y.l4] 31 rfl (by kernel_rfl) Tryd.isAgg29 (by kernel_rfl) (by kernel_rfl)) ?_
  refine D_v (pt b2 4) ?_
  refine D_held (wd Y.l4) (by kernel_rfl) (ld1 1 b2 4 [wd Y.l0, wd Y.l1, wd Y.l2, wd Y.l3, wd Y.l4] 31 rfl (by kernel_rfl) Tryd.isAgg29 (by kernel_rfl) (by kernel_rfl)) ?_
  refine D_v (wd Y.l0) ?_
  refine D_v (wd Y.l1) ?_
  refine D_v (wd Y.l2) ?_
  refine D_v (wd Y.l3) ?_
  refine D_v (wd Y.l4) ?_
  refine D_nil ?_
  refine E_then ?_
  refine C_seq ?_
  refine C_region ?_
  refine S_v (wd X.l1) ?_
  obtain ⟨x4, hx4, ux4⟩ : ∃ q, q = 19 * X.l1 ∧ q ≤ 42784196460019693 := ⟨_, rfl, Nat.mul_le_mul (Nat.le_refl 19) sX.l1⟩
  refine S_val (wd x4) (by kernel_rfl) (fun _ _ => fv (v := .int .u64 (IntKind.u64.wrap (19 * ((X.l1 : Nat) : Int)))) ((vint (hx4 ▸ u_mul_lt 19 X.l1 42784196460019693 (hx4 ▸ ux4) (by decide)))) (by kernel_rfl)) ?_
  refine S_v (wd X.l2) ?_
  obtain ⟨x5, hx5, ux5⟩ : ∃ q, q = 19 * X.l2 ∧ q ≤ 42784196460019693 := ⟨_, rfl, Nat.mul_le_mul (Nat.le_refl 19) sX.l2⟩
  refine S_val (wd x5) (by kernel_rfl) (fun _ _ => fv (v := .int .u64 (IntKind.u64.wrap (19 * ((X.l2 : Nat) : Int)))) ((vint (hx5 ▸ u_mul_lt 19 X.l2 42784196460019693 (hx5 ▸ ux5) (by decide)))) (by kernel_rfl)) ?_
  refine S_v (wd X.l3) ?_
  obtain ⟨x6, hx6, ux6⟩ : ∃ q, q = 19 * X.l3 ∧ q ≤ 42784196460019693 := ⟨_, rfl, Nat.mul_le_mul (Nat.le_refl 19) sX.l3⟩
  refine S_val (wd x6) (by kernel_rfl) (fun _ _ => fv (v := .int .u64 (IntKind.u64.wrap (19 * ((X.l3 : Nat) : Int)))) ((vint (hx6 ▸ u_mul_lt 19 X.l3 42784196460019693 (hx6 ▸ ux6) (by decide)))) (by kernel_rfl)) ?_
  refine S_v (wd X.l4) ?_
  obtain ⟨x7, hx7, ux7⟩ : ∃ q, q = 19 * X.l4 ∧ q ≤ 42784196460019693 := ⟨_, rfl, Nat.mul_le_mul (Nat.le_refl 19) sX.l4⟩
  refine S_val (wd x7) (by kernel_rfl) (fun _ _ => fv (v := .int .u64 (IntKind.u64.wrap (19 * ((X.l4 : Nat) : Int)))) ((vint (hx7 ▸ u_mul_lt 19 X.l4 42784196460019693 (hx7 ▸ ux7) (by decide)))) (by kernel_rfl)) ?_
  refine S_v (wd x4) ?_
  refine S_v (wd x5) ?_
  refine S_v (wd x6) ?_
  refine S_v (wd x7) ?_
  refine S_nil ?_
  refine E_then ?_
  refine C_seq ?_
  refine C_region ?_
  refine S_v (.agg #[.int .u64 0, .int .u64 0]) ?_
  refine S_v (wd X.l0) ?_
  refine S_v (wd Y.l0) ?_
  obtain ⟨d8, hd8, ud8, pd8⟩ := dplus_ex 0 X.l0 Y.l0 0 2251799813685247 2251799813685247 5070602400912913102387185451009 (Nat.le_refl 0) sX.l0 sY.l0 (by decide) (by decide) (by decide) (by decide)
  refine S_pure (v := dv d8) (by kernel_rfl) pd8 (fun _ => by kernel_rfl) ?_
  refine S_v (wd x4) ?_
  refine S_v (wd Y.l4) ?_
  obtain ⟨d9, hd9, ud9, pd9⟩ := dplus_ex d8 x4 Y.l4 5070602400912913102387185451009 42784196460019693 2251799813685247 101412048018258262047743709020180 ud8 ux4 sY.l4 (by decide) (by decide) (by decide) (by decide)
  refine S_pure (v := dv d9) (by kernel_rfl) pd9 (fun _ => by kernel_rfl) ?_
  refine S_v (wd x5) ?_
  refine S_v (wd Y.l3) ?_
  obtain ⟨d10, hd10, ud10, pd10⟩ := dplus_ex d9 x5 Y.l3 101412048018258262047743709020180 42784196460019693 2251799813685247 197753493635603610993100232589351 ud9 ux5 sY.l3 (by decide) (by decide) (by decide) (by decide)
  refine S_pure (v := dv d10) (by kernel_rfl) pd10 (fun _ => by kernel_rfl) ?_
  refine S_v (wd x6) ?_
  refine S_v (wd Y.l2) ?_
  obtain ⟨d11, hd11, ud11, pd11⟩ := dplus_ex d10 x6 Y.l2 197753493635603610993100232589351 42784196460019693 2251799813685247 294094939252948959938456756158522 ud10 ux6 sY.l2 (by decide) (by decide) (by decide) (by decide)
  refine S_pure (v := dv d11) (by kernel_rfl) pd11 (fun _ => by kernel_rfl) ?_
  refine S_v (wd x7) ?_
  refine S_v (wd Y.l1) ?_
  obtain ⟨d12, hd12, ud12, pd12⟩ := dplus_ex d11 x7 Y.l1 294094939252948959938456756158522 42784196460019693 2251799813685247 390436384870294308883813279727693 ud11 ux7 sY.l1 (by decide) (by decide) (by decide) (by decide)
  refine S_pure (v := dv d12) (by kernel_rfl) pd12 (fun _ => by kernel_rfl) ?_
  refine S_newv (fun nb0 => pt nb0 0) [.int .u64 0, .int .u64 0] 79 (by kernel_rfl) (fun w _ => by kernel_rfl) ?_
  intro b13 hb13 Hb13
  refine S_do (by kernel_rfl) (stN (L' := [⟨b13, [wd (hD d12), wd (lD d12)], 79⟩, ⟨b3, [.int .u64 0, .int .u64 0, .int .u64 0, .int .u64 0, .int .u64 0], 31⟩, ⟨b2, [wd Y.l0, wd Y.l1, wd Y.l2, wd Y.l3, wd Y.l4], 31⟩, ⟨b1, [wd X.l0, wd X.l1, wd X.l2, wd X.l3, wd X.l4], 31⟩]) [wd (hD d12), wd (lD d12)] 0 b13 0 [.int .u64 0, .int .u64 0] 79 rfl (by kernel_rfl) (by kernel_rfl) Tryd.sizeOf79 (by simp [Value.oneCell']) (by kernel_rfl) (by simp) (by kernel_rfl)) ?_
  refine S_nil ?_
  refine E_then ?_
  refine C_seq ?_
  refine C_region ?_
  refine S_v (.agg #[.int .u64 0, .int .u64 0]) ?_
  refine S_v (wd X.l0) ?_
  refine S_v (wd Y.l1) ?_
  obtain ⟨d14, hd14, ud14, pd14⟩ := dplus_ex 0 X.l0 Y.l1 0 2251799813685247 2251799813685247 5070602400912913102387185451009 (Nat.le_refl 0) sX.l0 sY.l1 (by decide) (by decide) (by decide) (by decide)
  refine S_pure (v := dv d14) (by kernel_rfl) pd14 (fun _ => by kernel_rfl) ?_
  refine S_v (wd X.l1) ?_
  refine S_v (wd Y.l0) ?_
  obtain ⟨d15, hd15, ud15, pd15⟩ := dplus_ex d14 X.l1 Y.l0 5070602400912913102387185451009 2251799813685247 2251799813685247 10141204801825826204774370902018 ud14 sX.l1 sY.l0 (by decide) (by decide) (by decide) (by decide)
  refine S_pure (v := dv d15) (by kernel_rfl) pd15 (fun _ => by kernel_rfl) ?_
  refine S_v (wd x5) ?_
  refine S_v (wd Y.l4) ?_
  obtain ⟨d16, hd16, ud16, pd16⟩ := dplus_ex d15 x5 Y.l4 10141204801825826204774370902018 42784196460019693 2251799813685247 106482650419171175150130894471189 ud15 ux5 sY.l4 (by decide) (by decide) (by decide) (by decide)
  refine S_pure (v := dv d16) (by kernel_rfl) pd16 (fun _ => by kernel_rfl) ?_
  refine S_v (wd x6) ?_
  refine S_v (wd Y.l3) ?_
  obtain ⟨d17, hd17, ud17, pd17⟩ := dplus_ex d16 x6 Y.l3 106482650419171175150130894471189 42784196460019693 2251799813685247 202824096036516524095487418040360 ud16 ux6 sY.l3 (by decide) (by decide) (by decide) (by decide)
  refine S_pure (v := dv d17) (by kernel_rfl) pd17 (fun _ => by kernel_rfl) ?_
  refine S_v (wd x7) ?_
  refine S_v (wd Y.l2) ?_
  obtain ⟨d18, hd18, ud18, pd18⟩ := dplus_ex d17 x7 Y.l2 202824096036516524095487418040360 42784196460019693 2251799813685247 299165541653861873040843941609531 ud17 ux7 sY.l2 (by decide) (by decide) (by decide) (by decide)
  refine S_pure (v := dv d18) (by kernel_rfl) pd18 (fun _ => by kernel_rfl) ?_
  refine S_newv (fun nb0 => pt nb0 0) [.int .u64 0, .int .u64 0] 79 (by kernel_rfl) (fun w _ => by kernel_rfl) ?_
  intro b19 hb19 Hb19
  refine S_do (by kernel_rfl) (stN (L' := [⟨b19, [wd (hD d18), wd (lD d18)], 79⟩, ⟨b13, [wd (hD d12), wd (lD d12)], 79⟩, ⟨b3, [.int .u64 0, .int .u64 0, .int .u64 0, .int .u64 0, .int .u64 0], 31⟩, ⟨b2, [wd Y.l0, wd Y.l1, wd Y.l2, wd Y.l3, wd Y.l4], 31⟩, ⟨b1, [wd X.l0, wd X.l1, wd X.l2, wd X.l3, wd X.l4], 31⟩]) [wd (hD d18), wd (lD d18)] 0 b19 0 [.int .u64 0, .int .u64 0] 79 rfl (by kernel_rfl) (by kernel_rfl) Tryd.sizeOf79 (by simp [Value.oneCell']) (by kernel_rfl) (by simp) (by kernel_rfl)) ?_
  refine S_nil ?_
  refine E_then ?_
  refine C_seq ?_
  refine C_region ?_
  refine S_v (.agg #[.int .u64 0, .int .u64 0]) ?_
  refine S_v (wd X.l0) ?_
  refine S_v (wd Y.l2) ?_
  obtain ⟨d20, hd20, ud20, pd20⟩ := dplus_ex 0 X.l0 Y.l2 0 2251799813685247 2251799813685247 5070602400912913102387185451009 (Nat.le_refl 0) sX.l0 sY.l2 (by decide) (by decide) (by decide) (by decide)
  refine S_pure (v := dv d20) (by kernel_rfl) pd20 (fun _ => by kernel_rfl) ?_
  refine S_v (wd X.l1) ?_
  refine S_v (wd Y.l1) ?_
  obtain ⟨d21, hd21, ud21, pd21⟩ := dplus_ex d20 X.l1 Y.l1 5070602400912913102387185451009 2251799813685247 2251799813685247 10141204801825826204774370902018 ud20 sX.l1 sY.l1 (by decide) (by decide) (by decide) (by decide)
  refine S_pure (v := dv d21) (by kernel_rfl) pd21 (fun _ => by kernel_rfl) ?_
  refine S_v (wd X.l2) ?_
  refine S_v (wd Y.l0) ?_
  obtain ⟨d22, hd22, ud22, pd22⟩ := dplus_ex d21 X.l2 Y.l0 10141204801825826204774370902018 2251799813685247 2251799813685247 15211807202738739307161556353027 ud21 sX.l2 sY.l0 (by decide) (by decide) (by decide) (by decide)
  refine S_pure (v := dv d22) (by kernel_rfl) pd22 (fun _ => by kernel_rfl) ?_
  refine S_v (wd x6) ?_
  refine S_v (wd Y.l4) ?_
  obtain ⟨d23, hd23, ud23, pd23⟩ := dplus_ex d22 x6 Y.l4 15211807202738739307161556353027 42784196460019693 2251799813685247 111553252820084088252518079922198 ud22 ux6 sY.l4 (by decide) (by decide) (by decide) (by decide)
  refine S_pure (v := dv d23) (by kernel_rfl) pd23 (fun _ => by kernel_rfl) ?_
  refine S_v (wd x7) ?_
  refine S_v (wd Y.l3) ?_
  obtain ⟨d24, hd24, ud24, pd24⟩ := dplus_ex d23 x7 Y.l3 111553252820084088252518079922198 42784196460019693 2251799813685247 207894698437429437197874603491369 ud23 ux7 sY.l3 (by decide) (by decide) (by decide) (by decide)
  refine S_pure (v := dv d24) (by kernel_rfl) pd24 (fun _ => by kernel_rfl) ?_
  refine S_newv (fun nb0 => pt nb0 0) [.int .u64 0, .int .u64 0] 79 (by kernel_rfl) (fun w _ => by kernel_rfl) ?_
  intro b25 hb25 Hb25
  refine S_do (by kernel_rfl) (stN (L' := [⟨b25, [wd (hD d24), wd (lD d24)], 79⟩, ⟨b19, [wd (hD d18), wd (lD d18)], 79⟩, ⟨b13, [wd (hD d12), wd (lD d12)], 79⟩, ⟨b3, [.int .u64 0, .int .u64 0, .int .u64 0, .int .u64 0, .int .u64 0], 31⟩, ⟨b2, [wd Y.l0, wd Y.l1, wd Y.l2, wd Y.l3, wd Y.l4], 31⟩, ⟨b1, [wd X.l0, wd X.l1, wd X.l2, wd X.l3, wd X.l4], 31⟩]) [wd (hD d24), wd (lD d24)] 0 b25 0 [.int .u64 0, .int .u64 0] 79 rfl (by kernel_rfl) (by kernel_rfl) Tryd.sizeOf79 (by simp [Value.oneCell']) (by kernel_rfl) (by simp) (by kernel_rfl)) ?_
  refine S_nil ?_
  refine E_then ?_
  refine C_seq ?_
  refine C_region ?_
  refine S_v (.agg #[.int .u64 0, .int .u64 0]) ?_
  refine S_v (wd X.l0) ?_
  refine S_v (wd Y.l3) ?_
  obtain ⟨d26, hd26, ud26, pd26⟩ := dplus_ex 0 X.l0 Y.l3 0 2251799813685247 2251799813685247 5070602400912913102387185451009 (Nat.le_refl 0) sX.l0 sY.l3 (by decide) (by decide) (by decide) (by decide)
  refine S_pure (v := dv d26) (by kernel_rfl) pd26 (fun _ => by kernel_rfl) ?_
  refine S_v (wd X.l1) ?_
  refine S_v (wd Y.l2) ?_
  obtain ⟨d27, hd27, ud27, pd27⟩ := dplus_ex d26 X.l1 Y.l2 5070602400912913102387185451009 2251799813685247 2251799813685247 10141204801825826204774370902018 ud26 sX.l1 sY.l2 (by decide) (by decide) (by decide) (by decide)
  refine S_pure (v := dv d27) (by kernel_rfl) pd27 (fun _ => by kernel_rfl) ?_
  refine S_v (wd X.l2) ?_
  refine S_v (wd Y.l1) ?_
  obtain ⟨d28, hd28, ud28, pd28⟩ := dplus_ex d27 X.l2 Y.l1 10141204801825826204774370902018 2251799813685247 2251799813685247 15211807202738739307161556353027 ud27 sX.l2 sY.l1 (by decide) (by decide) (by decide) (by decide)
  refine S_pure (v := dv d28) (by kernel_rfl) pd28 (fun _ => by kernel_rfl) ?_
  refine S_v (wd X.l3) ?_
  refine S_v (wd Y.l0) ?_
  obtain ⟨d29, hd29, ud29, pd29⟩ := dplus_ex d28 X.l3 Y.l0 15211807202738739307161556353027 2251799813685247 2251799813685247 20282409603651652409548741804036 ud28 sX.l3 sY.l0 (by decide) (by decide) (by decide) (by decide)
  refine S_pure (v := dv d29) (by kernel_rfl) pd29 (fun _ => by kernel_rfl) ?_
  refine S_v (wd x7) ?_
  refine S_v (wd Y.l4) ?_
  obtain ⟨d30, hd30, ud30, pd30⟩ := dplus_ex d29 x7 Y.l4 20282409603651652409548741804036 42784196460019693 2251799813685247 116623855220997001354905265373207 ud29 ux7 sY.l4 (by decide) (by decide) (by decide) (by decide)
  refine S_pure (v := dv d30) (by kernel_rfl) pd30 (fun _ => by kernel_rfl) ?_
  refine S_newv (fun nb0 => pt nb0 0) [.int .u64 0, .int .u64 0] 79 (by kernel_rfl) (fun w _ => by kernel_rfl) ?_
  intro b31 hb31 Hb31
  refine S_do (by kernel_rfl) (stN (L' := [⟨b31, [wd (hD d30), wd (lD d30)], 79⟩, ⟨b25, [wd (hD d24), wd (lD d24)], 79⟩, ⟨b19, [wd (hD d18), wd (lD d18)], 79⟩, ⟨b13, [wd (hD d12), wd (lD d12)], 79⟩, ⟨b3, [.int .u64 0, .int .u64 0, .int .u64 0, .int .u64 0, .int .u64 0], 31⟩, ⟨b2, [wd Y.l0, wd Y.l1, wd Y.l2, wd Y.l3, wd Y.l4], 31⟩, ⟨b1, [wd X.l0, wd X.l1, wd X.l2, wd X.l3, wd X.l4], 31⟩]) [wd (hD d30), wd (lD d30)] 0 b31 0 [.int .u64 0, .int .u64 0] 79 rfl (by kernel_rfl) (by kernel_rfl) Tryd.sizeOf79 (by simp [Value.oneCell']) (by kernel_rfl) (by simp) (by kernel_rfl)) ?_
  refine S_nil ?_
  refine E_then ?_
  refine C_seq ?_
  refine C_region ?_
  refine S_v (.agg #[.int .u64 0, .int .u64 0]) ?_
  refine S_v (wd X.l0) ?_
  refine S_v (wd Y.l4) ?_
  obtain ⟨d32, hd32, ud32, pd32⟩ := dplus_ex 0 X.l0 Y.l4 0 2251799813685247 2251799813685247 5070602400912913102387185451009 (Nat.le_refl 0) sX.l0 sY.l4 (by decide) (by decide) (by decide) (by decide)
  refine S_pure (v := dv d32) (by kernel_rfl) pd32 (fun _ => by kernel_rfl) ?_
  refine S_v (wd X.l1) ?_
  refine S_v (wd Y.l3) ?_
  obtain ⟨d33, hd33, ud33, pd33⟩ := dplus_ex d32 X.l1 Y.l3 5070602400912913102387185451009 2251799813685247 2251799813685247 10141204801825826204774370902018 ud32 sX.l1 sY.l3 (by decide) (by decide) (by decide) (by decide)
  refine S_pure (v := dv d33) (by kernel_rfl) pd33 (fun _ => by kernel_rfl) ?_
  refine S_v (wd X.l2) ?_
  refine S_v (wd Y.l2) ?_
  obtain ⟨d34, hd34, ud34, pd34⟩ := dplus_ex d33 X.l2 Y.l2 10141204801825826204774370902018 2251799813685247 2251799813685247 15211807202738739307161556353027 ud33 sX.l2 sY.l2 (by decide) (by decide) (by decide) (by decide)
  refine S_pure (v := dv d34) (by kernel_rfl) pd34 (fun _ => by kernel_rfl) ?_
  refine S_v (wd X.l3) ?_
  refine S_v (wd Y.l1) ?_
  obtain ⟨d35, hd35, ud35, pd35⟩ := dplus_ex d34 X.l3 Y.l1 15211807202738739307161556353027 2251799813685247 2251799813685247 20282409603651652409548741804036 ud34 sX.l3 sY.l1 (by decide) (by decide) (by decide) (by decide)
  refine S_pure (v := dv d35) (by kernel_rfl) pd35 (fun _ => by kernel_rfl) ?_
  refine S_v (wd X.l4) ?_
  refine S_v (wd Y.l0) ?_
  obtain ⟨d36, hd36, ud36, pd36⟩ := dplus_ex d35 X.l4 Y.l0 20282409603651652409548741804036 2251799813685247 2251799813685247 25353012004564565511935927255045 ud35 sX.l4 sY.l0 (by decide) (by decide) (by decide) (by decide)
  refine S_pure (v := dv d36) (by kernel_rfl) pd36 (fun _ => by kernel_rfl) ?_
  refine S_newv (fun nb0 => pt nb0 0) [.int .u64 0, .int .u64 0] 79 (by kernel_rfl) (fun w _ => by kernel_rfl) ?_
  intro b37 hb37 Hb37
  refine S_do (by kernel_rfl) (stN (L' := [⟨b37, [wd (hD d36), wd (lD d36)], 79⟩, ⟨b31, [wd (hD d30), wd (lD d30)], 79⟩, ⟨b25, [wd (hD d24), wd (lD d24)], 79⟩, ⟨b19, [wd (hD d18), wd (lD d18)], 79⟩, ⟨b13, [wd (hD d12), wd (lD d12)], 79⟩, ⟨b3, [.int .u64 0, .int .u64 0, .int .u64 0, .int .u64 0, .int .u64 0], 31⟩, ⟨b2, [wd Y.l0, wd Y.l1, wd Y.l2, wd Y.l3, wd Y.l4], 31⟩, ⟨b1, [wd X.l0, wd X.l1, wd X.l2, wd X.l3, wd X.l4], 31⟩]) [wd (hD d36), wd (lD d36)] 0 b37 0 [.int .u64 0, .int .u64 0] 79 rfl (by kernel_rfl) (by kernel_rfl) Tryd.sizeOf79 (by simp [Value.oneCell']) (by kernel_rfl) (by simp) (by kernel_rfl)) ?_
  refine S_nil ?_
  refine E_then ?_
  refine C_seq ?_
  refine C_region ?_
  refine S_val (dv d12) (by kernel_rfl) (ldN [wd (hD d12), wd (lD d12)] 4 b13 0 [wd (hD d12), wd (lD d12)] 79 rfl (by kernel_rfl) Tryd.isAgg79 Tryd.sizeOf79 (by kernel_rfl) (by kernel_rfl)) ?_
  refine S_val (dv d18) (by kernel_rfl) (ldN [wd (hD d18), wd (lD d18)] 3 b19 0 [wd (hD d18), wd (lD d18)] 79 rfl (by kernel_rfl) Tryd.isAgg79 Tryd.sizeOf79 (by kernel_rfl) (by kernel_rfl)) ?_
  refine S_val (dv d24) (by kernel_rfl) (ldN [wd (hD d24), wd (lD d24)] 2 b25 0 [wd (hD d24), wd (lD d24)] 79 rfl (by kernel_rfl) Tryd.isAgg79 Tryd.sizeOf79 (by kernel_rfl) (by kernel_rfl)) ?_
  refine S_val (dv d30) (by kernel_rfl) (ldN [wd (hD d30), wd (lD d30)] 1 b31 0 [wd (hD d30), wd (lD d30)] 79 rfl (by kernel_rfl) Tryd.isAgg79 Tryd.sizeOf79 (by kernel_rfl) (by kernel_rfl)) ?_
  refine S_val (dv d36) (by kernel_rfl) (ldN [wd (hD d36), wd (lD d36)] 0 b37 0 [wd (hD d36), wd (lD d36)] 79 rfl (by kernel_rfl) Tryd.isAgg79 Tryd.sizeOf79 (by kernel_rfl) (by kernel_rfl)) ?_
  refine S_pure (v := F5.v (F5.of ((d12 + 2251799813685248 * d18 + 5070602400912917605986812821504 * d24 + 11417981541647679048466287755595961091061972992 * d30 + 25711008708143844408671393477458601640355247900524685364822016 * d36) % pp))) (by kernel_rfl) (c_carried d12 d18 d24 d30 d36 (Nat.le_trans ud12 (by decide)) (Nat.le_trans ud18 (by decide)) (Nat.le_trans ud24 (by decide)) (Nat.le_trans ud30 (by decide)) (Nat.le_trans ud36 (by decide))) (fun _ => by kernel_rfl) ?_
  refine S_do (by kernel_rfl) (stN (L' := [⟨b37, [wd (hD d36), wd (lD d36)], 79⟩, ⟨b31, [wd (hD d30), wd (lD d30)], 79⟩, ⟨b25, [wd (hD d24), wd (lD d24)], 79⟩, ⟨b19, [wd (hD d18), wd (lD d18)], 79⟩, ⟨b13, [wd (hD d12), wd (lD d12)], 79⟩, ⟨b3, [wd ((F5.of ((d12 + 2251799813685248 * d18 + 5070602400912917605986812821504 * d24 + 11417981541647679048466287755595961091061972992 * d30 + 25711008708143844408671393477458601640355247900524685364822016 * d36) % pp)).l0), wd ((F5.of ((d12 + 2251799813685248 * d18 + 5070602400912917605986812821504 * d24 + 11417981541647679048466287755595961091061972992 * d30 + 25711008708143844408671393477458601640355247900524685364822016 * d36) % pp)).l1), wd ((F5.of ((d12 + 2251799813685248 * d18 + 5070602400912917605986812821504 * d24 + 11417981541647679048466287755595961091061972992 * d30 + 25711008708143844408671393477458601640355247900524685364822016 * d36) % pp)).l2), wd ((F5.of ((d12 + 2251799813685248 * d18 + 5070602400912917605986812821504 * d24 + 11417981541647679048466287755595961091061972992 * d30 + 25711008708143844408671393477458601640355247900524685364822016 * d36) % pp)).l3), wd ((F5.of ((d12 + 2251799813685248 * d18 + 5070602400912917605986812821504 * d24 + 11417981541647679048466287755595961091061972992 * d30 + 25711008708143844408671393477458601640355247900524685364822016 * d36) % pp)).l4)], 31⟩, ⟨b2, [wd Y.l0, wd Y.l1, wd Y.l2, wd Y.l3, wd Y.l4], 31⟩, ⟨b1, [wd X.l0, wd X.l1, wd X.l2, wd X.l3, wd X.l4], 31⟩]) [wd ((F5.of ((d12 + 2251799813685248 * d18 + 5070602400912917605986812821504 * d24 + 11417981541647679048466287755595961091061972992 * d30 + 25711008708143844408671393477458601640355247900524685364822016 * d36) % pp)).l0), wd ((F5.of ((d12 + 2251799813685248 * d18 + 5070602400912917605986812821504 * d24 + 11417981541647679048466287755595961091061972992 * d30 + 25711008708143844408671393477458601640355247900524685364822016 * d36) % pp)).l1), wd ((F5.of ((d12 + 2251799813685248 * d18 + 5070602400912917605986812821504 * d24 + 11417981541647679048466287755595961091061972992 * d30 + 25711008708143844408671393477458601640355247900524685364822016 * d36) % pp)).l2), wd ((F5.of ((d12 + 2251799813685248 * d18 + 5070602400912917605986812821504 * d24 + 11417981541647679048466287755595961091061972992 * d30 + 25711008708143844408671393477458601640355247900524685364822016 * d36) % pp)).l3), wd ((F5.of ((d12 + 2251799813685248 * d18 + 5070602400912917605986812821504 * d24 + 11417981541647679048466287755595961091061972992 * d30 + 25711008708143844408671393477458601640355247900524685364822016 * d36) % pp)).l4)] 5 b3 0 [.int .u64 0, .int .u64 0, .int .u64 0, .int .u64 0, .int .u64 0] 31 rfl (by kernel_rfl) (by kernel_rfl) Tryd.sizeOf31 (by simp [Value.oneCell']) (by kernel_rfl) (by simp) (by kernel_rfl)) ?_
  refine S_nil ?_
  refine E_then ?_
  refine C_ret ?_
  have e : (x.val * y.val) % pp = (d12 + 2251799813685248 * d18 + 5070602400912917605986812821504 * d24 + 11417981541647679048466287755595961091061972992 * d30 + 25711008708143844408671393477458601640355247900524685364822016 * d36) % pp := by rw [show (d12 + 2251799813685248 * d18 + 5070602400912917605986812821504 * d24 + 11417981541647679048466287755595961091061972992 * d30 + 25711008708143844408671393477458601640355247900524685364822016 * d36) % pp = (X.val * Y.val) % pp from fmul_law hx4 hx5 hx6 hx7 hd8 hd9 hd10 hd11 hd12 hd14 hd15 hd16 hd17 hd18 hd20 hd21 hd22 hd23 hd24 hd26 hd27 hd28 hd29 hd30 hd32 hd33 hd34 hd35 hd36]; rw [vX, vY, ← Nat.mul_mod]
  rw [e]
  exact pure_ret rfl (resC Tryd.results18 [wd ((F5.of ((d12 + 2251799813685248 * d18 + 5070602400912917605986812821504 * d24 + 11417981541647679048466287755595961091061972992 * d30 + 25711008708143844408671393477458601640355247900524685364822016 * d36) % pp)).l0), wd ((F5.of ((d12 + 2251799813685248 * d18 + 5070602400912917605986812821504 * d24 + 11417981541647679048466287755595961091061972992 * d30 + 25711008708143844408671393477458601640355247900524685364822016 * d36) % pp)).l1), wd ((F5.of ((d12 + 2251799813685248 * d18 + 5070602400912917605986812821504 * d24 + 11417981541647679048466287755595961091061972992 * d30 + 25711008708143844408671393477458601640355247900524685364822016 * d36) % pp)).l2), wd ((F5.of ((d12 + 2251799813685248 * d18 + 5070602400912917605986812821504 * d24 + 11417981541647679048466287755595961091061972992 * d30 + 25711008708143844408671393477458601640355247900524685364822016 * d36) % pp)).l3), wd ((F5.of ((d12 + 2251799813685248 * d18 + 5070602400912917605986812821504 * d24 + 11417981541647679048466287755595961091061972992 * d30 + 25711008708143844408671393477458601640355247900524685364822016 * d36) % pp)).l4)] 5 b3 31 (by kernel_rfl) Tryd.isAgg31 Tryd.sizeOf31 (by kernel_rfl))
theorem c_fmul_n (x y : F5) (hx : x.ok) (hy : y.ok) (sx : ¬ x.slim) : Pure Tryd.prog 18 #[F5.v x, F5.v y] ((F5.of ((x.val * y.val) % pp)).v) := by
  refine pure_of Tryd.func18 rfl (fun w0 => ?_)
  refine C_seq ?_
  refine C_region ?_
  refine S_newv (fun nb0 => pt nb0 0) [wd x.l0, wd x.l1, wd x.l2, wd x.l3, wd x.l4] 31 (by kernel_rfl) (fun w _ => by kernel_rfl) ?_
  intro b1 hb1 Hb1
  refine S_newv (fun nb0 => pt nb0 0) [wd y.l0, wd y.l1, wd y.l2, wd y.l3, wd y.l4] 31 (by kernel_rfl) (fun w _ => by kernel_rfl) ?_
  intro b2 hb2 Hb2
  refine S_newv (fun nb0 => pt nb0 0) [.int .u64 0, .int .u64 0, .int .u64 0, .int .u64 0, .int .u64 0] 31 (by kernel_rfl) (fun w _ => by kernel_rfl) ?_
  intro b3 hb3 Hb3
  refine S_nil ?_
  refine E_then ?_
  refine C_seq ?_
  refine C_seq ?_
  refine C_region ?_
  refine S_val (F5.v x) (by kernel_rfl) (ldN [wd x.l0, wd x.l1, wd x.l2, wd x.l3, wd x.l4] 2 b1 0 [wd x.l0, wd x.l1, wd x.l2, wd x.l3, wd x.l4] 31 rfl (by kernel_rfl) Tryd.isAgg31 Tryd.sizeOf31 (by kernel_rfl) (by kernel_rfl)) ?_
  refine S_pure (v := .bool false) (by kernel_rfl) (c_slim_f x hx sx) (fun _ => by kernel_rfl) ?_
  refine S_v (.bool true) ?_
  refine S_v (.bool true) ?_
  refine S_not (by kernel_rfl) ?_
  refine S_not (by kernel_rfl) ?_
  refine S_not (by kernel_rfl) ?_
  refine S_v (.bool true) ?_
  refine S_nil ?_
  refine E_then ?_
  refine C_true (by kernel_rfl) ?_
  refine C_drawn [.held, .held, .held, .held, .eff, .eff] (by kernel_rfl) (by kernel_rfl) ?_
  refine D_held (F5.v x) (by kernel_rfl) (ldN [wd x.l0, wd x.l1, wd x.l2, wd x.l3, wd x.l4] 2 b1 0 [wd x.l0, wd x.l1, wd x.l2, wd x.l3, wd x.l4] 31 rfl (by kernel_rfl) Tryd.isAgg31 Tryd.sizeOf31 (by kernel_rfl) (by kernel_rfl)) ?_
  refine D_pure (v := F5.v (F5.of (x.val % pp))) (by kernel_rfl) (c_fleast x hx) (fun _ => by kernel_rfl) ?_
  refine D_held (F5.v y) (by kernel_rfl) (ldN [wd y.l0, wd y.l1, wd y.l2, wd y.l3, wd y.l4] 1 b2 0 [wd y.l0, wd y.l1, wd y.l2, wd y.l3, wd y.l4] 31 rfl (by kernel_rfl) Tryd.isAgg31 Tryd.sizeOf31 (by kernel_rfl) (by kernel_rfl)) ?_
  refine D_pure (v := F5.v (F5.of (y.val % pp))) (by kernel_rfl) (c_fleast y hy) (fun _ => by kernel_rfl) ?_
  refine D_do (by kernel_rfl) (stN (L' := [⟨b3, [.int .u64 0, .int .u64 0, .int .u64 0, .int .u64 0, .int .u64 0], 31⟩, ⟨b2, [wd y.l0, wd y.l1, wd y.l2, wd y.l3, wd y.l4], 31⟩, ⟨b1, [wd ((F5.of (x.val % pp)).l0), wd ((F5.of (x.val % pp)).l1), wd ((F5.of (x.val % pp)).l2), wd ((F5.of (x.val % pp)).l3), wd ((F5.of (x.val % pp)).l4)], 31⟩]) [wd ((F5.of (x.val % pp)).l0), wd ((F5.of (x.val % pp)).l1), wd ((F5.of (x.val % pp)).l2), wd ((F5.of (x.val % pp)).l3), wd ((F5.of (x.val % pp)).l4)] 2 b1 0 [wd x.l0, wd x.l1, wd x.l2, wd x.l3, wd x.l4] 31 rfl (by kernel_rfl) (by kernel_rfl) Tryd.sizeOf31 (by simp [Value.oneCell']) (by kernel_rfl) (by simp) (by kernel_rfl)) ?_
  refine D_do (by kernel_rfl) (stN (L' := [⟨b3, [.int .u64 0, .int .u64 0, .int .u64 0, .int .u64 0, .int .u64 0], 31⟩, ⟨b2, [wd ((F5.of (y.val % pp)).l0), wd ((F5.of (y.val % pp)).l1), wd ((F5.of (y.val % pp)).l2), wd ((F5.of (y.val % pp)).l3), wd ((F5.of (y.val % pp)).l4)], 31⟩, ⟨b1, [wd ((F5.of (x.val % pp)).l0), wd ((F5.of (x.val % pp)).l1), wd ((F5.of (x.val % pp)).l2), wd ((F5.of (x.val % pp)).l3), wd ((F5.of (x.val % pp)).l4)], 31⟩]) [wd ((F5.of (y.val % pp)).l0), wd ((F5.of (y.val % pp)).l1), wd ((F5.of (y.val % pp)).l2), wd ((F5.of (y.val % pp)).l3), wd ((F5.of (y.val % pp)).l4)] 1 b2 0 [wd y.l0, wd y.l1, wd y.l2, wd y.l3, wd y.l4] 31 rfl (by kernel_rfl) (by kernel_rfl) Tryd.sizeOf31 (by simp [Value.oneCell']) (by kernel_rfl) (by simp) (by kernel_rfl)) ?_
  refine D_nil ?_
  obtain ⟨X, hX⟩ : ∃ q, q = F5.of (x.val % pp) := ⟨_, rfl⟩
  have sX : X.slim := by rw [hX]; exact F5.of_slim _
  have vX : X.val = x.val % pp := by rw [hX]; exact F5.of_val (Nat.lt_trans (Nat.mod_lt _ (by decide)) (by decide))
  rw [← hX]
  obtain ⟨Y, hY⟩ : ∃ q, q = F5.of (y.val % pp) := ⟨_, rfl⟩
  have sY : Y.slim := by rw [hY]; exact F5.of_slim _
  have vY : Y.val = y.val % pp := by rw [hY]; exact F5.of_val (Nat.lt_trans (Nat.mod_lt _ (by decide)) (by decide))
  rw [← hY]
  refine E_forget (fun g => ⟨#[g 0, g 1, pt b1 0, pt b2 0, pt b3 0, g 5, g 6, g 7, g 8, g 9, g 10, g 11, g 12, g 13, g 14, g 15, g 16, g 17, g 18, g 19, g 20, g 21, g 22, g 23, g 24, .bool false, .bool true, .bool true, undef, undef, undef, .bool true, g 32, g 33, g 34, g 35, g 36, g 37, g 38, g 39, g 40, g 41, g 42, g 43, g 44, g 45, g 46, g 47, g 48, g 49, g 50, g 51, g 52, g 53, g 54, g 55, g 56, g 57, g 58, g 59, g 60, g 61, g 62, g 63, g 64, g 65, g 66, g 67, g 68, g 69, g 70, g 71, g 72, g 73, g 74, g 75, g 76, g 77, g 78, g 79, g 80, g 81, g 82, g 83, g 84, g 85, g 86, g 87, g 88, g 89, g 90, g 91, g 92, g 93, g 94, g 95, g 96, g 97, g 98, g 99, g 100, g 101, g 102, g 103, g 104, g 105, g 106, g 107, g 108, g 109, g 110, g 111, g 112, g 113, g 114, g 115, g 116, g 117, g 118, g 119, g 120, g 121, g 122, g 123, g 124, g 125, g 126, g 127, g 128, g 129, g 130, g 131, g 132, g 133, g 134, g 135, g 136, g 137, g 138, g 139, g 140, g 141, g 142, g 143, g 144, g 145, g 146, g 147, g 148, g 149], []⟩) (by kernel_rfl) ?_
  intro g
  refine E_then ?_
  refine C_seq ?_
  refine C_drawn [.pure, .held, .pure, .held, .pure, .held, .pure, .held, .pure, .held, .pure, .pure, .pure, .pure, .pure] (by kernel_rfl) (by kernel_rfl) ?_
  refine D_v (pt b1 0) ?_
  refine D_held (wd X.l0) (by kernel_rfl) (ld1 2 b1 0 [wd X.l0, wd X.l1, wd X.l2, wd X.l3, wd X.l4] 31 rfl (by kernel_rfl) Tryd.isAgg29 (by kernel_rfl) (by kernel_rfl)) ?_
  refine D_v (pt b1 1) ?_
  refine D_held (wd X.l1) (by kernel_rfl) (ld1 2 b1 1 [wd X.l0, wd X.l1, wd X.l2, wd X.l3, wd X.l4] 31 rfl (by kernel_rfl) Tryd.isAgg29 (by kernel_rfl) (by kernel_rfl)) ?_
  refine D_v (pt b1 2) ?_
  refine D_held (wd X.l2) (by kernel_rfl) (ld1 2 b1 2 [wd X.l0, wd X.l1, wd X.l2, wd X.l3, wd X.l4] 31 rfl (by kernel_rfl) Tryd.isAgg29 (by kernel_rfl) (by kernel_rfl)) ?_
  refine D_v (pt b1 3) ?_
  refine D_held (wd X.l3) (by kernel_rfl) (ld1 2 b1 3 [wd X.l0, wd X.l1, wd X.l2, wd X.l3, wd X.l4] 31 rfl (by kernel_rfl) Tryd.isAgg29 (by kernel_rfl) (by kernel_rfl)) ?_
  refine D_v (pt b1 4) ?_
  refine D_held (wd X.l4) (by kernel_rfl) (ld1 2 b1 4 [wd X.l0, wd X.l1, wd X.l2, wd X.l3, wd X.l4] 31 rfl (by kernel_rfl) Tryd.isAgg29 (by kernel_rfl) (by kernel_rfl)) ?_
  refine D_v (wd X.l0) ?_
  refine D_v (wd X.l1) ?_
  refine D_v (wd X.l2) ?_
  refine D_v (wd X.l3) ?_
  refine D_v (wd X.l4) ?_
  refine D_nil ?_
  refine E_then ?_
  refine C_seq ?_
  refine C_drawn [.pure, .held, .pure, .held, .pure, .held, .pure, .held, .pure, .held, .pure, .pure, .pure, .pure, .pure] (by kernel_rfl) (by kernel_rfl) ?_
  refine D_v (pt b2 0) ?_
  refine D_held (wd Y.l0) (by kernel_rfl) (ld1 1 b2 0 [wd Y.l0, wd Y.l1, wd Y.l2, wd Y.l3, wd Y.l4] 31 rfl (by kernel_rfl) Tryd.isAgg29 (by kernel_rfl) (by kernel_rfl)) ?_
  refine D_v (pt b2 1) ?_
  refine D_held (wd Y.l1) (by kernel_rfl) (ld1 1 b2 1 [wd Y.l0, wd Y.l1, wd Y.l2, wd Y.l3, wd Y.l4] 31 rfl (by kernel_rfl) Tryd.isAgg29 (by kernel_rfl) (by kernel_rfl)) ?_
  refine D_v (pt b2 2) ?_
  refine D_held (wd Y.l2) (by kernel_rfl) (ld1 1 b2 2 [wd Y.l0, wd Y.l1, wd Y.l2, wd Y.l3, wd Y.l4] 31 rfl (by kernel_rfl) Tryd.isAgg29 (by kernel_rfl) (by kernel_rfl)) ?_
  refine D_v (pt b2 3) ?_
  refine D_held (wd Y.l3) (by kernel_rfl) (ld1 1 b2 3 [wd Y.l0, wd Y.l1, wd Y.l2, wd Y.l3, wd Y.l4] 31 rfl (by kernel_rfl) Tryd.isAgg29 (by kernel_rfl) (by kernel_rfl)) ?_
  refine D_v (pt b2 4) ?_
  refine D_held (wd Y.l4) (by kernel_rfl) (ld1 1 b2 4 [wd Y.l0, wd Y.l1, wd Y.l2, wd Y.l3, wd Y.l4] 31 rfl (by kernel_rfl) Tryd.isAgg29 (by kernel_rfl) (by kernel_rfl)) ?_
  refine D_v (wd Y.l0) ?_
  refine D_v (wd Y.l1) ?_
  refine D_v (wd Y.l2) ?_
  refine D_v (wd Y.l3) ?_
  refine D_v (wd Y.l4) ?_
  refine D_nil ?_
  refine E_then ?_
  refine C_seq ?_
  refine C_region ?_
  refine S_v (wd X.l1) ?_
  obtain ⟨x4, hx4, ux4⟩ : ∃ q, q = 19 * X.l1 ∧ q ≤ 42784196460019693 := ⟨_, rfl, Nat.mul_le_mul (Nat.le_refl 19) sX.l1⟩
  refine S_val (wd x4) (by kernel_rfl) (fun _ _ => fv (v := .int .u64 (IntKind.u64.wrap (19 * ((X.l1 : Nat) : Int)))) ((vint (hx4 ▸ u_mul_lt 19 X.l1 42784196460019693 (hx4 ▸ ux4) (by decide)))) (by kernel_rfl)) ?_
  refine S_v (wd X.l2) ?_
  obtain ⟨x5, hx5, ux5⟩ : ∃ q, q = 19 * X.l2 ∧ q ≤ 42784196460019693 := ⟨_, rfl, Nat.mul_le_mul (Nat.le_refl 19) sX.l2⟩
  refine S_val (wd x5) (by kernel_rfl) (fun _ _ => fv (v := .int .u64 (IntKind.u64.wrap (19 * ((X.l2 : Nat) : Int)))) ((vint (hx5 ▸ u_mul_lt 19 X.l2 42784196460019693 (hx5 ▸ ux5) (by decide)))) (by kernel_rfl)) ?_
  refine S_v (wd X.l3) ?_
  obtain ⟨x6, hx6, ux6⟩ : ∃ q, q = 19 * X.l3 ∧ q ≤ 42784196460019693 := ⟨_, rfl, Nat.mul_le_mul (Nat.le_refl 19) sX.l3⟩
  refine S_val (wd x6) (by kernel_rfl) (fun _ _ => fv (v := .int .u64 (IntKind.u64.wrap (19 * ((X.l3 : Nat) : Int)))) ((vint (hx6 ▸ u_mul_lt 19 X.l3 42784196460019693 (hx6 ▸ ux6) (by decide)))) (by kernel_rfl)) ?_
  refine S_v (wd X.l4) ?_
  obtain ⟨x7, hx7, ux7⟩ : ∃ q, q = 19 * X.l4 ∧ q ≤ 42784196460019693 := ⟨_, rfl, Nat.mul_le_mul (Nat.le_refl 19) sX.l4⟩
  refine S_val (wd x7) (by kernel_rfl) (fun _ _ => fv (v := .int .u64 (IntKind.u64.wrap (19 * ((X.l4 : Nat) : Int)))) ((vint (hx7 ▸ u_mul_lt 19 X.l4 42784196460019693 (hx7 ▸ ux7) (by decide)))) (by kernel_rfl)) ?_
  refine S_v (wd x4) ?_
  refine S_v (wd x5) ?_
  refine S_v (wd x6) ?_
  refine S_v (wd x7) ?_
  refine S_nil ?_
  refine E_then ?_
  refine C_seq ?_
  refine C_region ?_
  refine S_v (.agg #[.int .u64 0, .int .u64 0]) ?_
  refine S_v (wd X.l0) ?_
  refine S_v (wd Y.l0) ?_
  obtain ⟨d8, hd8, ud8, pd8⟩ := dplus_ex 0 X.l0 Y.l0 0 2251799813685247 2251799813685247 5070602400912913102387185451009 (Nat.le_refl 0) sX.l0 sY.l0 (by decide) (by decide) (by decide) (by decide)
  refine S_pure (v := dv d8) (by kernel_rfl) pd8 (fun _ => by kernel_rfl) ?_
  refine S_v (wd x4) ?_
  refine S_v (wd Y.l4) ?_
  obtain ⟨d9, hd9, ud9, pd9⟩ := dplus_ex d8 x4 Y.l4 5070602400912913102387185451009 42784196460019693 2251799813685247 101412048018258262047743709020180 ud8 ux4 sY.l4 (by decide) (by decide) (by decide) (by decide)
  refine S_pure (v := dv d9) (by kernel_rfl) pd9 (fun _ => by kernel_rfl) ?_
  refine S_v (wd x5) ?_
  refine S_v (wd Y.l3) ?_
  obtain ⟨d10, hd10, ud10, pd10⟩ := dplus_ex d9 x5 Y.l3 101412048018258262047743709020180 42784196460019693 2251799813685247 197753493635603610993100232589351 ud9 ux5 sY.l3 (by decide) (by decide) (by decide) (by decide)
  refine S_pure (v := dv d10) (by kernel_rfl) pd10 (fun _ => by kernel_rfl) ?_
  refine S_v (wd x6) ?_
  refine S_v (wd Y.l2) ?_
  obtain ⟨d11, hd11, ud11, pd11⟩ := dplus_ex d10 x6 Y.l2 197753493635603610993100232589351 42784196460019693 2251799813685247 294094939252948959938456756158522 ud10 ux6 sY.l2 (by decide) (by decide) (by decide) (by decide)
  refine S_pure (v := dv d11) (by kernel_rfl) pd11 (fun _ => by kernel_rfl) ?_
  refine S_v (wd x7) ?_
  refine S_v (wd Y.l1) ?_
  obtain ⟨d12, hd12, ud12, pd12⟩ := dplus_ex d11 x7 Y.l1 294094939252948959938456756158522 42784196460019693 2251799813685247 390436384870294308883813279727693 ud11 ux7 sY.l1 (by decide) (by decide) (by decide) (by decide)
  refine S_pure (v := dv d12) (by kernel_rfl) pd12 (fun _ => by kernel_rfl) ?_
  refine S_newv (fun nb0 => pt nb0 0) [.int .u64 0, .int .u64 0] 79 (by kernel_rfl) (fun w _ => by kernel_rfl) ?_
  intro b13 hb13 Hb13
  refine S_do (by kernel_rfl) (stN (L' := [⟨b13, [wd (hD d12), wd (lD d12)], 79⟩, ⟨b3, [.int .u64 0, .int .u64 0, .int .u64 0, .int .u64 0, .int .u64 0], 31⟩, ⟨b2, [wd Y.l0, wd Y.l1, wd Y.l2, wd Y.l3, wd Y.l4], 31⟩, ⟨b1, [wd X.l0, wd X.l1, wd X.l2, wd X.l3, wd X.l4], 31⟩]) [wd (hD d12), wd (lD d12)] 0 b13 0 [.int .u64 0, .int .u64 0] 79 rfl (by kernel_rfl) (by kernel_rfl) Tryd.sizeOf79 (by simp [Value.oneCell']) (by kernel_rfl) (by simp) (by kernel_rfl)) ?_
  refine S_nil ?_
  refine E_then ?_
  refine C_seq ?_
  refine C_region ?_
  refine S_v (.agg #[.int .u64 0, .int .u64 0]) ?_
  refine S_v (wd X.l0) ?_
  refine S_v (wd Y.l1) ?_
  obtain ⟨d14, hd14, ud14, pd14⟩ := dplus_ex 0 X.l0 Y.l1 0 2251799813685247 2251799813685247 5070602400912913102387185451009 (Nat.le_refl 0) sX.l0 sY.l1 (by decide) (by decide) (by decide) (by decide)
  refine S_pure (v := dv d14) (by kernel_rfl) pd14 (fun _ => by kernel_rfl) ?_
  refine S_v (wd X.l1) ?_
  refine S_v (wd Y.l0) ?_
  obtain ⟨d15, hd15, ud15, pd15⟩ := dplus_ex d14 X.l1 Y.l0 5070602400912913102387185451009 2251799813685247 2251799813685247 10141204801825826204774370902018 ud14 sX.l1 sY.l0 (by decide) (by decide) (by decide) (by decide)
  refine S_pure (v := dv d15) (by kernel_rfl) pd15 (fun _ => by kernel_rfl) ?_
  refine S_v (wd x5) ?_
  refine S_v (wd Y.l4) ?_
  obtain ⟨d16, hd16, ud16, pd16⟩ := dplus_ex d15 x5 Y.l4 10141204801825826204774370902018 42784196460019693 2251799813685247 106482650419171175150130894471189 ud15 ux5 sY.l4 (by decide) (by decide) (by decide) (by decide)
  refine S_pure (v := dv d16) (by kernel_rfl) pd16 (fun _ => by kernel_rfl) ?_
  refine S_v (wd x6) ?_
  refine S_v (wd Y.l3) ?_
  obtain ⟨d17, hd17, ud17, pd17⟩ := dplus_ex d16 x6 Y.l3 106482650419171175150130894471189 42784196460019693 2251799813685247 202824096036516524095487418040360 ud16 ux6 sY.l3 (by decide) (by decide) (by decide) (by decide)
  refine S_pure (v := dv d17) (by kernel_rfl) pd17 (fun _ => by kernel_rfl) ?_
  refine S_v (wd x7) ?_
  refine S_v (wd Y.l2) ?_
  obtain ⟨d18, hd18, ud18, pd18⟩ := dplus_ex d17 x7 Y.l2 202824096036516524095487418040360 42784196460019693 2251799813685247 299165541653861873040843941609531 ud17 ux7 sY.l2 (by decide) (by decide) (by decide) (by decide)
  refine S_pure (v := dv d18) (by kernel_rfl) pd18 (fun _ => by kernel_rfl) ?_
  refine S_newv (fun nb0 => pt nb0 0) [.int .u64 0, .int .u64 0] 79 (by kernel_rfl) (fun w _ => by kernel_rfl) ?_
  intro b19 hb19 Hb19
  refine S_do (by kernel_rfl) (stN (L' := [⟨b19, [wd (hD d18), wd (lD d18)], 79⟩, ⟨b13, [wd (hD d12), wd (lD d12)], 79⟩, ⟨b3, [.int .u64 0, .int .u64 0, .int .u64 0, .int .u64 0, .int .u64 0], 31⟩, ⟨b2, [wd Y.l0, wd Y.l1, wd Y.l2, wd Y.l3, wd Y.l4], 31⟩, ⟨b1, [wd X.l0, wd X.l1, wd X.l2, wd X.l3, wd X.l4], 31⟩]) [wd (hD d18), wd (lD d18)] 0 b19 0 [.int .u64 0, .int .u64 0] 79 rfl (by kernel_rfl) (by kernel_rfl) Tryd.sizeOf79 (by simp [Value.oneCell']) (by kernel_rfl) (by simp) (by kernel_rfl)) ?_
  refine S_nil ?_
  refine E_then ?_
  refine C_seq ?_
  refine C_region ?_
  refine S_v (.agg #[.int .u64 0, .int .u64 0]) ?_
  refine S_v (wd X.l0) ?_
  refine S_v (wd Y.l2) ?_
  obtain ⟨d20, hd20, ud20, pd20⟩ := dplus_ex 0 X.l0 Y.l2 0 2251799813685247 2251799813685247 5070602400912913102387185451009 (Nat.le_refl 0) sX.l0 sY.l2 (by decide) (by decide) (by decide) (by decide)
  refine S_pure (v := dv d20) (by kernel_rfl) pd20 (fun _ => by kernel_rfl) ?_
  refine S_v (wd X.l1) ?_
  refine S_v (wd Y.l1) ?_
  obtain ⟨d21, hd21, ud21, pd21⟩ := dplus_ex d20 X.l1 Y.l1 5070602400912913102387185451009 2251799813685247 2251799813685247 10141204801825826204774370902018 ud20 sX.l1 sY.l1 (by decide) (by decide) (by decide) (by decide)
  refine S_pure (v := dv d21) (by kernel_rfl) pd21 (fun _ => by kernel_rfl) ?_
  refine S_v (wd X.l2) ?_
  refine S_v (wd Y.l0) ?_
  obtain ⟨d22, hd22, ud22, pd22⟩ := dplus_ex d21 X.l2 Y.l0 10141204801825826204774370902018 2251799813685247 2251799813685247 15211807202738739307161556353027 ud21 sX.l2 sY.l0 (by decide) (by decide) (by decide) (by decide)
  refine S_pure (v := dv d22) (by kernel_rfl) pd22 (fun _ => by kernel_rfl) ?_
  refine S_v (wd x6) ?_
  refine S_v (wd Y.l4) ?_
  obtain ⟨d23, hd23, ud23, pd23⟩ := dplus_ex d22 x6 Y.l4 15211807202738739307161556353027 42784196460019693 2251799813685247 111553252820084088252518079922198 ud22 ux6 sY.l4 (by decide) (by decide) (by decide) (by decide)
  refine S_pure (v := dv d23) (by kernel_rfl) pd23 (fun _ => by kernel_rfl) ?_
  refine S_v (wd x7) ?_
  refine S_v (wd Y.l3) ?_
  obtain ⟨d24, hd24, ud24, pd24⟩ := dplus_ex d23 x7 Y.l3 111553252820084088252518079922198 42784196460019693 2251799813685247 207894698437429437197874603491369 ud23 ux7 sY.l3 (by decide) (by decide) (by decide) (by decide)
  refine S_pure (v := dv d24) (by kernel_rfl) pd24 (fun _ => by kernel_rfl) ?_
  refine S_newv (fun nb0 => pt nb0 0) [.int .u64 0, .int .u64 0] 79 (by kernel_rfl) (fun w _ => by kernel_rfl) ?_
  intro b25 hb25 Hb25
  refine S_do (by kernel_rfl) (stN (L' := [⟨b25, [wd (hD d24), wd (lD d24)], 79⟩, ⟨b19, [wd (hD d18), wd (lD d18)], 79⟩, ⟨b13, [wd (hD d12), wd (lD d12)], 79⟩, ⟨b3, [.int .u64 0, .int .u64 0, .int .u64 0, .int .u64 0, .int .u64 0], 31⟩, ⟨b2, [wd Y.l0, wd Y.l1, wd Y.l2, wd Y.l3, wd Y.l4], 31⟩, ⟨b1, [wd X.l0, wd X.l1, wd X.l2, wd X.l3, wd X.l4], 31⟩]) [wd (hD d24), wd (lD d24)] 0 b25 0 [.int .u64 0, .int .u64 0] 79 rfl (by kernel_rfl) (by kernel_rfl) Tryd.sizeOf79 (by simp [Value.oneCell']) (by kernel_rfl) (by simp) (by kernel_rfl)) ?_
  refine S_nil ?_
  refine E_then ?_
  refine C_seq ?_
  refine C_region ?_
  refine S_v (.agg #[.int .u64 0, .int .u64 0]) ?_
  refine S_v (wd X.l0) ?_
  refine S_v (wd Y.l3) ?_
  obtain ⟨d26, hd26, ud26, pd26⟩ := dplus_ex 0 X.l0 Y.l3 0 2251799813685247 2251799813685247 5070602400912913102387185451009 (Nat.le_refl 0) sX.l0 sY.l3 (by decide) (by decide) (by decide) (by decide)
  refine S_pure (v := dv d26) (by kernel_rfl) pd26 (fun _ => by kernel_rfl) ?_
  refine S_v (wd X.l1) ?_
  refine S_v (wd Y.l2) ?_
  obtain ⟨d27, hd27, ud27, pd27⟩ := dplus_ex d26 X.l1 Y.l2 5070602400912913102387185451009 2251799813685247 2251799813685247 10141204801825826204774370902018 ud26 sX.l1 sY.l2 (by decide) (by decide) (by decide) (by decide)
  refine S_pure (v := dv d27) (by kernel_rfl) pd27 (fun _ => by kernel_rfl) ?_
  refine S_v (wd X.l2) ?_
  refine S_v (wd Y.l1) ?_
  obtain ⟨d28, hd28, ud28, pd28⟩ := dplus_ex d27 X.l2 Y.l1 10141204801825826204774370902018 2251799813685247 2251799813685247 15211807202738739307161556353027 ud27 sX.l2 sY.l1 (by decide) (by decide) (by decide) (by decide)
  refine S_pure (v := dv d28) (by kernel_rfl) pd28 (fun _ => by kernel_rfl) ?_
  refine S_v (wd X.l3) ?_
  refine S_v (wd Y.l0) ?_
  obtain ⟨d29, hd29, ud29, pd29⟩ := dplus_ex d28 X.l3 Y.l0 15211807202738739307161556353027 2251799813685247 2251799813685247 20282409603651652409548741804036 ud28 sX.l3 sY.l0 (by decide) (by decide) (by decide) (by decide)
  refine S_pure (v := dv d29) (by kernel_rfl) pd29 (fun _ => by kernel_rfl) ?_
  refine S_v (wd x7) ?_
  refine S_v (wd Y.l4) ?_
  obtain ⟨d30, hd30, ud30, pd30⟩ := dplus_ex d29 x7 Y.l4 20282409603651652409548741804036 42784196460019693 2251799813685247 116623855220997001354905265373207 ud29 ux7 sY.l4 (by decide) (by decide) (by decide) (by decide)
  refine S_pure (v := dv d30) (by kernel_rfl) pd30 (fun _ => by kernel_rfl) ?_
  refine S_newv (fun nb0 => pt nb0 0) [.int .u64 0, .int .u64 0] 79 (by kernel_rfl) (fun w _ => by kernel_rfl) ?_
  intro b31 hb31 Hb31
  refine S_do (by kernel_rfl) (stN (L' := [⟨b31, [wd (hD d30), wd (lD d30)], 79⟩, ⟨b25, [wd (hD d24), wd (lD d24)], 79⟩, ⟨b19, [wd (hD d18), wd (lD d18)], 79⟩, ⟨b13, [wd (hD d12), wd (lD d12)], 79⟩, ⟨b3, [.int .u64 0, .int .u64 0, .int .u64 0, .int .u64 0, .int .u64 0], 31⟩, ⟨b2, [wd Y.l0, wd Y.l1, wd Y.l2, wd Y.l3, wd Y.l4], 31⟩, ⟨b1, [wd X.l0, wd X.l1, wd X.l2, wd X.l3, wd X.l4], 31⟩]) [wd (hD d30), wd (lD d30)] 0 b31 0 [.int .u64 0, .int .u64 0] 79 rfl (by kernel_rfl) (by kernel_rfl) Tryd.sizeOf79 (by simp [Value.oneCell']) (by kernel_rfl) (by simp) (by kernel_rfl)) ?_
  refine S_nil ?_
  refine E_then ?_
  refine C_seq ?_
  refine C_region ?_
  refine S_v (.agg #[.int .u64 0, .int .u64 0]) ?_
  refine S_v (wd X.l0) ?_
  refine S_v (wd Y.l4) ?_
  obtain ⟨d32, hd32, ud32, pd32⟩ := dplus_ex 0 X.l0 Y.l4 0 2251799813685247 2251799813685247 5070602400912913102387185451009 (Nat.le_refl 0) sX.l0 sY.l4 (by decide) (by decide) (by decide) (by decide)
  refine S_pure (v := dv d32) (by kernel_rfl) pd32 (fun _ => by kernel_rfl) ?_
  refine S_v (wd X.l1) ?_
  refine S_v (wd Y.l3) ?_
  obtain ⟨d33, hd33, ud33, pd33⟩ := dplus_ex d32 X.l1 Y.l3 5070602400912913102387185451009 2251799813685247 2251799813685247 10141204801825826204774370902018 ud32 sX.l1 sY.l3 (by decide) (by decide) (by decide) (by decide)
  refine S_pure (v := dv d33) (by kernel_rfl) pd33 (fun _ => by kernel_rfl) ?_
  refine S_v (wd X.l2) ?_
  refine S_v (wd Y.l2) ?_
  obtain ⟨d34, hd34, ud34, pd34⟩ := dplus_ex d33 X.l2 Y.l2 10141204801825826204774370902018 2251799813685247 2251799813685247 15211807202738739307161556353027 ud33 sX.l2 sY.l2 (by decide) (by decide) (by decide) (by decide)
  refine S_pure (v := dv d34) (by kernel_rfl) pd34 (fun _ => by kernel_rfl) ?_
  refine S_v (wd X.l3) ?_
  refine S_v (wd Y.l1) ?_
  obtain ⟨d35, hd35, ud35, pd35⟩ := dplus_ex d34 X.l3 Y.l1 15211807202738739307161556353027 2251799813685247 2251799813685247 20282409603651652409548741804036 ud34 sX.l3 sY.l1 (by decide) (by decide) (by decide) (by decide)
  refine S_pure (v := dv d35) (by kernel_rfl) pd35 (fun _ => by kernel_rfl) ?_
  refine S_v (wd X.l4) ?_
  refine S_v (wd Y.l0) ?_
  obtain ⟨d36, hd36, ud36, pd36⟩ := dplus_ex d35 X.l4 Y.l0 20282409603651652409548741804036 2251799813685247 2251799813685247 25353012004564565511935927255045 ud35 sX.l4 sY.l0 (by decide) (by decide) (by decide) (by decide)
  refine S_pure (v := dv d36) (by kernel_rfl) pd36 (fun _ => by kernel_rfl) ?_
  refine S_newv (fun nb0 => pt nb0 0) [.int .u64 0, .int .u64 0] 79 (by kernel_rfl) (fun w _ => by kernel_rfl) ?_
  intro b37 hb37 Hb37
  refine S_do (by kernel_rfl) (stN (L' := [⟨b37, [wd (hD d36), wd (lD d36)], 79⟩, ⟨b31, [wd (hD d30), wd (lD d30)], 79⟩, ⟨b25, [wd (hD d24), wd (lD d24)], 79⟩, ⟨b19, [wd (hD d18), wd (lD d18)], 79⟩, ⟨b13, [wd (hD d12), wd (lD d12)], 79⟩, ⟨b3, [.int .u64 0, .int .u64 0, .int .u64 0, .int .u64 0, .int .u64 0], 31⟩, ⟨b2, [wd Y.l0, wd Y.l1, wd Y.l2, wd Y.l3, wd Y.l4], 31⟩, ⟨b1, [wd X.l0, wd X.l1, wd X.l2, wd X.l3, wd X.l4], 31⟩]) [wd (hD d36), wd (lD d36)] 0 b37 0 [.int .u64 0, .int .u64 0] 79 rfl (by kernel_rfl) (by kernel_rfl) Tryd.sizeOf79 (by simp [Value.oneCell']) (by kernel_rfl) (by simp) (by kernel_rfl)) ?_
  refine S_nil ?_
  refine E_then ?_
  refine C_seq ?_
  refine C_region ?_
  refine S_val (dv d12) (by kernel_rfl) (ldN [wd (hD d12), wd (lD d12)] 4 b13 0 [wd (hD d12), wd (lD d12)] 79 rfl (by kernel_rfl) Tryd.isAgg79 Tryd.sizeOf79 (by kernel_rfl) (by kernel_rfl)) ?_
  refine S_val (dv d18) (by kernel_rfl) (ldN [wd (hD d18), wd (lD d18)] 3 b19 0 [wd (hD d18), wd (lD d18)] 79 rfl (by kernel_rfl) Tryd.isAgg79 Tryd.sizeOf79 (by kernel_rfl) (by kernel_rfl)) ?_
  refine S_val (dv d24) (by kernel_rfl) (ldN [wd (hD d24), wd (lD d24)] 2 b25 0 [wd (hD d24), wd (lD d24)] 79 rfl (by kernel_rfl) Tryd.isAgg79 Tryd.sizeOf79 (by kernel_rfl) (by kernel_rfl)) ?_
  refine S_val (dv d30) (by kernel_rfl) (ldN [wd (hD d30), wd (lD d30)] 1 b31 0 [wd (hD d30), wd (lD d30)] 79 rfl (by kernel_rfl) Tryd.isAgg79 Tryd.sizeOf79 (by kernel_rfl) (by kernel_rfl)) ?_
  refine S_val (dv d36) (by kernel_rfl) (ldN [wd (hD d36), wd (lD d36)] 0 b37 0 [wd (hD d36), wd (lD d36)] 79 rfl (by kernel_rfl) Tryd.isAgg79 Tryd.sizeOf79 (by kernel_rfl) (by kernel_rfl)) ?_
  refine S_pure (v := F5.v (F5.of ((d12 + 2251799813685248 * d18 + 5070602400912917605986812821504 * d24 + 11417981541647679048466287755595961091061972992 * d30 + 25711008708143844408671393477458601640355247900524685364822016 * d36) % pp))) (by kernel_rfl) (c_carried d12 d18 d24 d30 d36 (Nat.le_trans ud12 (by decide)) (Nat.le_trans ud18 (by decide)) (Nat.le_trans ud24 (by decide)) (Nat.le_trans ud30 (by decide)) (Nat.le_trans ud36 (by decide))) (fun _ => by kernel_rfl) ?_
  refine S_do (by kernel_rfl) (stN (L' := [⟨b37, [wd (hD d36), wd (lD d36)], 79⟩, ⟨b31, [wd (hD d30), wd (lD d30)], 79⟩, ⟨b25, [wd (hD d24), wd (lD d24)], 79⟩, ⟨b19, [wd (hD d18), wd (lD d18)], 79⟩, ⟨b13, [wd (hD d12), wd (lD d12)], 79⟩, ⟨b3, [wd ((F5.of ((d12 + 2251799813685248 * d18 + 5070602400912917605986812821504 * d24 + 11417981541647679048466287755595961091061972992 * d30 + 25711008708143844408671393477458601640355247900524685364822016 * d36) % pp)).l0), wd ((F5.of ((d12 + 2251799813685248 * d18 + 5070602400912917605986812821504 * d24 + 11417981541647679048466287755595961091061972992 * d30 + 25711008708143844408671393477458601640355247900524685364822016 * d36) % pp)).l1), wd ((F5.of ((d12 + 2251799813685248 * d18 + 5070602400912917605986812821504 * d24 + 11417981541647679048466287755595961091061972992 * d30 + 25711008708143844408671393477458601640355247900524685364822016 * d36) % pp)).l2), wd ((F5.of ((d12 + 2251799813685248 * d18 + 5070602400912917605986812821504 * d24 + 11417981541647679048466287755595961091061972992 * d30 + 25711008708143844408671393477458601640355247900524685364822016 * d36) % pp)).l3), wd ((F5.of ((d12 + 2251799813685248 * d18 + 5070602400912917605986812821504 * d24 + 11417981541647679048466287755595961091061972992 * d30 + 25711008708143844408671393477458601640355247900524685364822016 * d36) % pp)).l4)], 31⟩, ⟨b2, [wd Y.l0, wd Y.l1, wd Y.l2, wd Y.l3, wd Y.l4], 31⟩, ⟨b1, [wd X.l0, wd X.l1, wd X.l2, wd X.l3, wd X.l4], 31⟩]) [wd ((F5.of ((d12 + 2251799813685248 * d18 + 5070602400912917605986812821504 * d24 + 11417981541647679048466287755595961091061972992 * d30 + 25711008708143844408671393477458601640355247900524685364822016 * d36) % pp)).l0), wd ((F5.of ((d12 + 2251799813685248 * d18 + 5070602400912917605986812821504 * d24 + 11417981541647679048466287755595961091061972992 * d30 + 25711008708143844408671393477458601640355247900524685364822016 * d36) % pp)).l1), wd ((F5.of ((d12 + 2251799813685248 * d18 + 5070602400912917605986812821504 * d24 + 11417981541647679048466287755595961091061972992 * d30 + 25711008708143844408671393477458601640355247900524685364822016 * d36) % pp)).l2), wd ((F5.of ((d12 + 2251799813685248 * d18 + 5070602400912917605986812821504 * d24 + 11417981541647679048466287755595961091061972992 * d30 + 25711008708143844408671393477458601640355247900524685364822016 * d36) % pp)).l3), wd ((F5.of ((d12 + 2251799813685248 * d18 + 5070602400912917605986812821504 * d24 + 11417981541647679048466287755595961091061972992 * d30 + 25711008708143844408671393477458601640355247900524685364822016 * d36) % pp)).l4)] 5 b3 0 [.int .u64 0, .int .u64 0, .int .u64 0, .int .u64 0, .int .u64 0] 31 rfl (by kernel_rfl) (by kernel_rfl) Tryd.sizeOf31 (by simp [Value.oneCell']) (by kernel_rfl) (by simp) (by kernel_rfl)) ?_
  refine S_nil ?_
  refine E_then ?_
  refine C_ret ?_
  have e : (x.val * y.val) % pp = (d12 + 2251799813685248 * d18 + 5070602400912917605986812821504 * d24 + 11417981541647679048466287755595961091061972992 * d30 + 25711008708143844408671393477458601640355247900524685364822016 * d36) % pp := by rw [show (d12 + 2251799813685248 * d18 + 5070602400912917605986812821504 * d24 + 11417981541647679048466287755595961091061972992 * d30 + 25711008708143844408671393477458601640355247900524685364822016 * d36) % pp = (X.val * Y.val) % pp from fmul_law hx4 hx5 hx6 hx7 hd8 hd9 hd10 hd11 hd12 hd14 hd15 hd16 hd17 hd18 hd20 hd21 hd22 hd23 hd24 hd26 hd27 hd28 hd29 hd30 hd32 hd33 hd34 hd35 hd36]; rw [vX, vY, ← Nat.mul_mod]
  rw [e]
  exact pure_ret rfl (resC Tryd.results18 [wd ((F5.of ((d12 + 2251799813685248 * d18 + 5070602400912917605986812821504 * d24 + 11417981541647679048466287755595961091061972992 * d30 + 25711008708143844408671393477458601640355247900524685364822016 * d36) % pp)).l0), wd ((F5.of ((d12 + 2251799813685248 * d18 + 5070602400912917605986812821504 * d24 + 11417981541647679048466287755595961091061972992 * d30 + 25711008708143844408671393477458601640355247900524685364822016 * d36) % pp)).l1), wd ((F5.of ((d12 + 2251799813685248 * d18 + 5070602400912917605986812821504 * d24 + 11417981541647679048466287755595961091061972992 * d30 + 25711008708143844408671393477458601640355247900524685364822016 * d36) % pp)).l2), wd ((F5.of ((d12 + 2251799813685248 * d18 + 5070602400912917605986812821504 * d24 + 11417981541647679048466287755595961091061972992 * d30 + 25711008708143844408671393477458601640355247900524685364822016 * d36) % pp)).l3), wd ((F5.of ((d12 + 2251799813685248 * d18 + 5070602400912917605986812821504 * d24 + 11417981541647679048466287755595961091061972992 * d30 + 25711008708143844408671393477458601640355247900524685364822016 * d36) % pp)).l4)] 5 b3 31 (by kernel_rfl) Tryd.isAgg31 Tryd.sizeOf31 (by kernel_rfl))
theorem c_fmul (x y : F5) (hx : x.ok) (hy : y.ok) : Pure Tryd.prog 18 #[x.v, y.v] ((F5.of ((x.val * y.val) % pp)).v) := by
  by_cases sx : x.slim
  · by_cases sy : y.slim
    · exact c_fmul_ss x y hx hy sx sy
    · exact c_fmul_sn x y hx hy sx sy
  · exact c_fmul_n x y hx hy sx
theorem c_fsq_s (x : F5) (hx : x.ok) (sx : x.slim) : Pure Tryd.prog 59 #[F5.v x] ((F5.of ((x.val * x.val) % pp)).v) := by
  refine pure_of Tryd.func59 rfl (fun w0 => ?_)
  refine C_seq ?_
  refine C_region ?_
  refine S_newv (fun nb0 => pt nb0 0) [wd x.l0, wd x.l1, wd x.l2, wd x.l3, wd x.l4] 31 (by kernel_rfl) (fun w _ => by kernel_rfl) ?_
  intro b1 hb1 Hb1
  refine S_newv (fun nb0 => pt nb0 0) [.int .u64 0, .int .u64 0, .int .u64 0, .int .u64 0, .int .u64 0] 31 (by kernel_rfl) (fun w _ => by kernel_rfl) ?_
  intro b2 hb2 Hb2
  refine S_nil ?_
  refine E_then ?_
  refine C_seq ?_
  refine C_seq ?_
  refine C_region ?_
  refine S_val (F5.v x) (by kernel_rfl) (ldN [wd x.l0, wd x.l1, wd x.l2, wd x.l3, wd x.l4] 1 b1 0 [wd x.l0, wd x.l1, wd x.l2, wd x.l3, wd x.l4] 31 rfl (by kernel_rfl) Tryd.isAgg31 Tryd.sizeOf31 (by kernel_rfl) (by kernel_rfl)) ?_
  refine S_pure (v := .bool true) (by kernel_rfl) (c_slim_t x sx) (fun _ => by kernel_rfl) ?_
  refine S_v (.bool false) ?_
  refine S_nil ?_
  refine E_then ?_
  refine C_false (by kernel_rfl) ?_
  refine C_skip ?_
  refine E_then ?_
  refine C_seq ?_
  refine C_drawn [.pure, .held, .pure, .pure, .held, .pure, .pure, .held, .pure, .pure, .held, .pure, .pure, .pure, .pure, .pure] (by kernel_rfl) (by kernel_rfl) ?_
  refine D_v (pt b1 0) ?_
  refine D_held (wd x.l0) (by kernel_rfl) (ld1 1 b1 0 [wd x.l0, wd x.l1, wd x.l2, wd x.l3, wd x.l4] 31 rfl (by kernel_rfl) Tryd.isAgg29 (by kernel_rfl) (by kernel_rfl)) ?_
  obtain ⟨x3, hx3, ux3⟩ : ∃ q, q = 2 * x.l0 ∧ q ≤ 4503599627370494 := ⟨_, rfl, Nat.mul_le_mul (Nat.le_refl 2) sx.l0⟩
  refine D_val (wd x3) (by kernel_rfl) (fun _ => fv (v := .int .u64 (IntKind.u64.wrap (2 * ((x.l0 : Nat) : Int)))) ((vint (hx3 ▸ u_mul_lt 2 x.l0 4503599627370494 (hx3 ▸ ux3) (by decide)))) (by kernel_rfl)) ?_
  refine D_v (pt b1 1) ?_
  refine D_held (wd x.l1) (by kernel_rfl) (ld1 1 b1 1 [wd x.l0, wd x.l1, wd x.l2, wd x.l3, wd x.l4] 31 rfl (by kernel_rfl) Tryd.isAgg29 (by kernel_rfl) (by kernel_rfl)) ?_
  obtain ⟨x4, hx4, ux4⟩ : ∃ q, q = 2 * x.l1 ∧ q ≤ 4503599627370494 := ⟨_, rfl, Nat.mul_le_mul (Nat.le_refl 2) sx.l1⟩
  refine D_val (wd x4) (by kernel_rfl) (fun _ => fv (v := .int .u64 (IntKind.u64.wrap (2 * ((x.l1 : Nat) : Int)))) ((vint (hx4 ▸ u_mul_lt 2 x.l1 4503599627370494 (hx4 ▸ ux4) (by decide)))) (by kernel_rfl)) ?_
  refine D_v (pt b1 3) ?_
  refine D_held (wd x.l3) (by kernel_rfl) (ld1 1 b1 3 [wd x.l0, wd x.l1, wd x.l2, wd x.l3, wd x.l4] 31 rfl (by kernel_rfl) Tryd.isAgg29 (by kernel_rfl) (by kernel_rfl)) ?_
  obtain ⟨x5, hx5, ux5⟩ : ∃ q, q = 19 * x.l3 ∧ q ≤ 42784196460019693 := ⟨_, rfl, Nat.mul_le_mul (Nat.le_refl 19) sx.l3⟩
  refine D_val (wd x5) (by kernel_rfl) (fun _ => fv (v := .int .u64 (IntKind.u64.wrap (19 * ((x.l3 : Nat) : Int)))) ((vint (hx5 ▸ u_mul_lt 19 x.l3 42784196460019693 (hx5 ▸ ux5) (by decide)))) (by kernel_rfl)) ?_
  refine D_v (pt b1 4) ?_
  refine D_held (wd x.l4) (by kernel_rfl) (ld1 1 b1 4 [wd x.l0, wd x.l1, wd x.l2, wd x.l3, wd x.l4] 31 rfl (by kernel_rfl) Tryd.isAgg29 (by kernel_rfl) (by kernel_rfl)) ?_
  obtain ⟨x6, hx6, ux6⟩ : ∃ q, q = 19 * x.l4 ∧ q ≤ 42784196460019693 := ⟨_, rfl, Nat.mul_le_mul (Nat.le_refl 19) sx.l4⟩
  refine D_val (wd x6) (by kernel_rfl) (fun _ => fv (v := .int .u64 (IntKind.u64.wrap (19 * ((x.l4 : Nat) : Int)))) ((vint (hx6 ▸ u_mul_lt 19 x.l4 42784196460019693 (hx6 ▸ ux6) (by decide)))) (by kernel_rfl)) ?_
  refine D_v (wd x3) ?_
  refine D_v (wd x4) ?_
  refine D_v (wd x5) ?_
  refine D_v (wd x6) ?_
  refine D_nil ?_
  refine E_then ?_
  refine C_seq ?_
  refine C_drawn [.pure, .held, .pure, .pure, .held, .pure, .pure, .pure] (by kernel_rfl) (by kernel_rfl) ?_
  refine D_v (pt b1 1) ?_
  refine D_held (wd x.l1) (by kernel_rfl) (ld1 1 b1 1 [wd x.l0, wd x.l1, wd x.l2, wd x.l3, wd x.l4] 31 rfl (by kernel_rfl) Tryd.isAgg29 (by kernel_rfl) (by kernel_rfl)) ?_
  obtain ⟨x7, hx7, ux7⟩ : ∃ q, q = 38 * x.l1 ∧ q ≤ 85568392920039386 := ⟨_, rfl, Nat.mul_le_mul (Nat.le_refl 38) sx.l1⟩
  refine D_val (wd x7) (by kernel_rfl) (fun _ => fv (v := .int .u64 (IntKind.u64.wrap (38 * ((x.l1 : Nat) : Int)))) ((vint (hx7 ▸ u_mul_lt 38 x.l1 85568392920039386 (hx7 ▸ ux7) (by decide)))) (by kernel_rfl)) ?_
  refine D_v (pt b1 2) ?_
  refine D_held (wd x.l2) (by kernel_rfl) (ld1 1 b1 2 [wd x.l0, wd x.l1, wd x.l2, wd x.l3, wd x.l4] 31 rfl (by kernel_rfl) Tryd.isAgg29 (by kernel_rfl) (by kernel_rfl)) ?_
  obtain ⟨x8, hx8, ux8⟩ : ∃ q, q = 38 * x.l2 ∧ q ≤ 85568392920039386 := ⟨_, rfl, Nat.mul_le_mul (Nat.le_refl 38) sx.l2⟩
  refine D_val (wd x8) (by kernel_rfl) (fun _ => fv (v := .int .u64 (IntKind.u64.wrap (38 * ((x.l2 : Nat) : Int)))) ((vint (hx8 ▸ u_mul_lt 38 x.l2 85568392920039386 (hx8 ▸ ux8) (by decide)))) (by kernel_rfl)) ?_
  refine D_v (wd x7) ?_
  refine D_v (wd x8) ?_
  refine D_nil ?_
  refine E_then ?_
  refine C_seq ?_
  refine C_drawn [.pure, .pure, .held, .pure, .held, .held, .pure, .pure, .held, .held, .pure, .pure, .held, .held, .pure, .pure, .pure, .held, .held, .pure, .pure, .held, .held, .pure, .pure, .held, .held, .pure, .pure, .pure, .held, .held, .pure, .held, .pure, .held, .held, .pure, .pure, .pure, .held, .held, .pure, .pure, .pure, .held, .held, .pure, .pure, .held, .held, .pure, .pure, .held, .held, .pure, .pure, .pure, .held, .held, .pure, .pure, .held, .held, .pure, .held, .pure, .held, .held, .held, .eff] (by kernel_rfl) (by kernel_rfl) ?_
  refine D_v (.agg #[.int .u64 0, .int .u64 0]) ?_
  refine D_v (pt b1 0) ?_
  refine D_held (wd x.l0) (by kernel_rfl) (ld1 1 b1 0 [wd x.l0, wd x.l1, wd x.l2, wd x.l3, wd x.l4] 31 rfl (by kernel_rfl) Tryd.isAgg29 (by kernel_rfl) (by kernel_rfl)) ?_
  refine D_v (pt b1 0) ?_
  refine D_held (wd x.l0) (by kernel_rfl) (ld1 1 b1 0 [wd x.l0, wd x.l1, wd x.l2, wd x.l3, wd x.l4] 31 rfl (by kernel_rfl) Tryd.isAgg29 (by kernel_rfl) (by kernel_rfl)) ?_
  obtain ⟨d9, hd9, ud9, pd9⟩ := dplus_ex 0 x.l0 x.l0 0 2251799813685247 2251799813685247 5070602400912913102387185451009 (Nat.le_refl 0) sx.l0 sx.l0 (by decide) (by decide) (by decide) (by decide)
  refine D_pure (v := dv d9) (by kernel_rfl) pd9 (fun _ => by kernel_rfl) ?_
  refine D_v (wd x7) ?_
  refine D_v (pt b1 4) ?_
  refine D_held (wd x.l4) (by kernel_rfl) (ld1 1 b1 4 [wd x.l0, wd x.l1, wd x.l2, wd x.l3, wd x.l4] 31 rfl (by kernel_rfl) Tryd.isAgg29 (by kernel_rfl) (by kernel_rfl)) ?_
  obtain ⟨d10, hd10, ud10, pd10⟩ := dplus_ex d9 x7 x.l4 5070602400912913102387185451009 85568392920039386 2251799813685247 197753493635603610993100232589351 ud9 ux7 sx.l4 (by decide) (by decide) (by decide) (by decide)
  refine D_pure (v := dv d10) (by kernel_rfl) pd10 (fun _ => by kernel_rfl) ?_
  refine D_v (wd x8) ?_
  refine D_v (pt b1 3) ?_
  refine D_held (wd x.l3) (by kernel_rfl) (ld1 1 b1 3 [wd x.l0, wd x.l1, wd x.l2, wd x.l3, wd x.l4] 31 rfl (by kernel_rfl) Tryd.isAgg29 (by kernel_rfl) (by kernel_rfl)) ?_
  obtain ⟨d11, hd11, ud11, pd11⟩ := dplus_ex d10 x8 x.l3 197753493635603610993100232589351 85568392920039386 2251799813685247 390436384870294308883813279727693 ud10 ux8 sx.l3 (by decide) (by decide) (by decide) (by decide)
  refine D_pure (v := dv d11) (by kernel_rfl) pd11 (fun _ => by kernel_rfl) ?_
  refine D_v (.agg #[.int .u64 0, .int .u64 0]) ?_
  refine D_v (wd x3) ?_
  refine D_v (pt b1 1) ?_
  refine D_held (wd x.l1) (by kernel_rfl) (ld1 1 b1 1 [wd x.l0, wd x.l1, wd x.l2, wd x.l3, wd x.l4] 31 rfl (by kernel_rfl) Tryd.isAgg29 (by kernel_rfl) (by kernel_rfl)) ?_
  obtain ⟨d12, hd12, ud12, pd12⟩ := dplus_ex 0 x3 x.l1 0 4503599627370494 2251799813685247 10141204801825826204774370902018 (Nat.le_refl 0) ux3 sx.l1 (by decide) (by decide) (by decide) (by decide)
  refine D_pure (v := dv d12) (by kernel_rfl) pd12 (fun _ => by kernel_rfl) ?_
  refine D_v (wd x8) ?_
  refine D_v (pt b1 4) ?_
  refine D_held (wd x.l4) (by kernel_rfl) (ld1 1 b1 4 [wd x.l0, wd x.l1, wd x.l2, wd x.l3, wd x.l4] 31 rfl (by kernel_rfl) Tryd.isAgg29 (by kernel_rfl) (by kernel_rfl)) ?_
  obtain ⟨d13, hd13, ud13, pd13⟩ := dplus_ex d12 x8 x.l4 10141204801825826204774370902018 85568392920039386 2251799813685247 202824096036516524095487418040360 ud12 ux8 sx.l4 (by decide) (by decide) (by decide) (by decide)
  refine D_pure (v := dv d13) (by kernel_rfl) pd13 (fun _ => by kernel_rfl) ?_
  refine D_v (wd x5) ?_
  refine D_v (pt b1 3) ?_
  refine D_held (wd x.l3) (by kernel_rfl) (ld1 1 b1 3 [wd x.l0, wd x.l1, wd x.l2, wd x.l3, wd x.l4] 31 rfl (by kernel_rfl) Tryd.isAgg29 (by kernel_rfl) (by kernel_rfl)) ?_
  obtain ⟨d14, hd14, ud14, pd14⟩ := dplus_ex d13 x5 x.l3 202824096036516524095487418040360 42784196460019693 2251799813685247 299165541653861873040843941609531 ud13 ux5 sx.l3 (by decide) (by decide) (by decide) (by decide)
  refine D_pure (v := dv d14) (by kernel_rfl) pd14 (fun _ => by kernel_rfl) ?_
  refine D_v (.agg #[.int .u64 0, .int .u64 0]) ?_
  refine D_v (wd x3) ?_
  refine D_v (pt b1 2) ?_
  refine D_held (wd x.l2) (by kernel_rfl) (ld1 1 b1 2 [wd x.l0, wd x.l1, wd x.l2, wd x.l3, wd x.l4] 31 rfl (by kernel_rfl) Tryd.isAgg29 (by kernel_rfl) (by kernel_rfl)) ?_
  obtain ⟨d15, hd15, ud15, pd15⟩ := dplus_ex 0 x3 x.l2 0 4503599627370494 2251799813685247 10141204801825826204774370902018 (Nat.le_refl 0) ux3 sx.l2 (by decide) (by decide) (by decide) (by decide)
  refine D_pure (v := dv d15) (by kernel_rfl) pd15 (fun _ => by kernel_rfl) ?_
  refine D_v (pt b1 1) ?_
  refine D_held (wd x.l1) (by kernel_rfl) (ld1 1 b1 1 [wd x.l0, wd x.l1, wd x.l2, wd x.l3, wd x.l4] 31 rfl (by kernel_rfl) Tryd.isAgg29 (by kernel_rfl) (by kernel_rfl)) ?_
  refine D_v (pt b1 1) ?_
  refine D_held (wd x.l1) (by kernel_rfl) (ld1 1 b1 1 [wd x.l0, wd x.l1, wd x.l2, wd x.l3, wd x.l4] 31 rfl (by kernel_rfl) Tryd.isAgg29 (by kernel_rfl) (by kernel_rfl)) ?_
  obtain ⟨d16, hd16, ud16, pd16⟩ := dplus_ex d15 x.l1 x.l1 10141204801825826204774370902018 2251799813685247 2251799813685247 15211807202738739307161556353027 ud15 sx.l1 sx.l1 (by decide) (by decide) (by decide) (by decide)
  refine D_pure (v := dv d16) (by kernel_rfl) pd16 (fun _ => by kernel_rfl) ?_
  refine D_v (wd x5) ?_
  obtain ⟨x17, hx17, ux17⟩ : ∃ q, q = 2 * x5 ∧ q ≤ 85568392920039386 := ⟨_, rfl, Nat.mul_le_mul (Nat.le_refl 2) ux5⟩
  refine D_val (wd x17) (by kernel_rfl) (fun _ => fv (v := .int .u64 (IntKind.u64.wrap (2 * ((x5 : Nat) : Int)))) ((vint (hx17 ▸ u_mul_lt 2 x5 85568392920039386 (hx17 ▸ ux17) (by decide)))) (by kernel_rfl)) ?_
  refine D_v (pt b1 4) ?_
  refine D_held (wd x.l4) (by kernel_rfl) (ld1 1 b1 4 [wd x.l0, wd x.l1, wd x.l2, wd x.l3, wd x.l4] 31 rfl (by kernel_rfl) Tryd.isAgg29 (by kernel_rfl) (by kernel_rfl)) ?_
  obtain ⟨d18, hd18, ud18, pd18⟩ := dplus_ex d16 x17 x.l4 15211807202738739307161556353027 85568392920039386 2251799813685247 207894698437429437197874603491369 ud16 ux17 sx.l4 (by decide) (by decide) (by decide) (by decide)
  refine D_pure (v := dv d18) (by kernel_rfl) pd18 (fun _ => by kernel_rfl) ?_
  refine D_v (.agg #[.int .u64 0, .int .u64 0]) ?_
  refine D_v (wd x3) ?_
  refine D_v (pt b1 3) ?_
  refine D_held (wd x.l3) (by kernel_rfl) (ld1 1 b1 3 [wd x.l0, wd x.l1, wd x.l2, wd x.l3, wd x.l4] 31 rfl (by kernel_rfl) Tryd.isAgg29 (by kernel_rfl) (by kernel_rfl)) ?_
  obtain ⟨d19, hd19, ud19, pd19⟩ := dplus_ex 0 x3 x.l3 0 4503599627370494 2251799813685247 10141204801825826204774370902018 (Nat.le_refl 0) ux3 sx.l3 (by decide) (by decide) (by decide) (by decide)
  refine D_pure (v := dv d19) (by kernel_rfl) pd19 (fun _ => by kernel_rfl) ?_
  refine D_v (wd x4) ?_
  refine D_v (pt b1 2) ?_
  refine D_held (wd x.l2) (by kernel_rfl) (ld1 1 b1 2 [wd x.l0, wd x.l1, wd x.l2, wd x.l3, wd x.l4] 31 rfl (by kernel_rfl) Tryd.isAgg29 (by kernel_rfl) (by kernel_rfl)) ?_
  obtain ⟨d20, hd20, ud20, pd20⟩ := dplus_ex d19 x4 x.l2 10141204801825826204774370902018 4503599627370494 2251799813685247 20282409603651652409548741804036 ud19 ux4 sx.l2 (by decide) (by decide) (by decide) (by decide)
  refine D_pure (v := dv d20) (by kernel_rfl) pd20 (fun _ => by kernel_rfl) ?_
  refine D_v (wd x6) ?_
  refine D_v (pt b1 4) ?_
  refine D_held (wd x.l4) (by kernel_rfl) (ld1 1 b1 4 [wd x.l0, wd x.l1, wd x.l2, wd x.l3, wd x.l4] 31 rfl (by kernel_rfl) Tryd.isAgg29 (by kernel_rfl) (by kernel_rfl)) ?_
  obtain ⟨d21, hd21, ud21, pd21⟩ := dplus_ex d20 x6 x.l4 20282409603651652409548741804036 42784196460019693 2251799813685247 116623855220997001354905265373207 ud20 ux6 sx.l4 (by decide) (by decide) (by decide) (by decide)
  refine D_pure (v := dv d21) (by kernel_rfl) pd21 (fun _ => by kernel_rfl) ?_
  refine D_v (.agg #[.int .u64 0, .int .u64 0]) ?_
  refine D_v (wd x3) ?_
  refine D_v (pt b1 4) ?_
  refine D_held (wd x.l4) (by kernel_rfl) (ld1 1 b1 4 [wd x.l0, wd x.l1, wd x.l2, wd x.l3, wd x.l4] 31 rfl (by kernel_rfl) Tryd.isAgg29 (by kernel_rfl) (by kernel_rfl)) ?_
  obtain ⟨d22, hd22, ud22, pd22⟩ := dplus_ex 0 x3 x.l4 0 4503599627370494 2251799813685247 10141204801825826204774370902018 (Nat.le_refl 0) ux3 sx.l4 (by decide) (by decide) (by decide) (by decide)
  refine D_pure (v := dv d22) (by kernel_rfl) pd22 (fun _ => by kernel_rfl) ?_
  refine D_v (wd x4) ?_
  refine D_v (pt b1 3) ?_
  refine D_held (wd x.l3) (by kernel_rfl) (ld1 1 b1 3 [wd x.l0, wd x.l1, wd x.l2, wd x.l3, wd x.l4] 31 rfl (by kernel_rfl) Tryd.isAgg29 (by kernel_rfl) (by kernel_rfl)) ?_
  obtain ⟨d23, hd23, ud23, pd23⟩ := dplus_ex d22 x4 x.l3 10141204801825826204774370902018 4503599627370494 2251799813685247 20282409603651652409548741804036 ud22 ux4 sx.l3 (by decide) (by decide) (by decide) (by decide)
  refine D_pure (v := dv d23) (by kernel_rfl) pd23 (fun _ => by kernel_rfl) ?_
  refine D_v (pt b1 2) ?_
  refine D_held (wd x.l2) (by kernel_rfl) (ld1 1 b1 2 [wd x.l0, wd x.l1, wd x.l2, wd x.l3, wd x.l4] 31 rfl (by kernel_rfl) Tryd.isAgg29 (by kernel_rfl) (by kernel_rfl)) ?_
  refine D_v (pt b1 2) ?_
  refine D_held (wd x.l2) (by kernel_rfl) (ld1 1 b1 2 [wd x.l0, wd x.l1, wd x.l2, wd x.l3, wd x.l4] 31 rfl (by kernel_rfl) Tryd.isAgg29 (by kernel_rfl) (by kernel_rfl)) ?_
  obtain ⟨d24, hd24, ud24, pd24⟩ := dplus_ex d23 x.l2 x.l2 20282409603651652409548741804036 2251799813685247 2251799813685247 25353012004564565511935927255045 ud23 sx.l2 sx.l2 (by decide) (by decide) (by decide) (by decide)
  refine D_pure (v := dv d24) (by kernel_rfl) pd24 (fun _ => by kernel_rfl) ?_
  refine D_pure (v := F5.v (F5.of ((d11 + 2251799813685248 * d14 + 5070602400912917605986812821504 * d18 + 11417981541647679048466287755595961091061972992 * d21 + 25711008708143844408671393477458601640355247900524685364822016 * d24) % pp))) (by kernel_rfl) (c_carried d11 d14 d18 d21 d24 (Nat.le_trans ud11 (by decide)) (Nat.le_trans ud14 (by decide)) (Nat.le_trans ud18 (by decide)) (Nat.le_trans ud21 (by decide)) (Nat.le_trans ud24 (by decide))) (fun _ => by kernel_rfl) ?_
  refine D_do (by kernel_rfl) (stN (L' := [⟨b2, [wd ((F5.of ((d11 + 2251799813685248 * d14 + 5070602400912917605986812821504 * d18 + 11417981541647679048466287755595961091061972992 * d21 + 25711008708143844408671393477458601640355247900524685364822016 * d24) % pp)).l0), wd ((F5.of ((d11 + 2251799813685248 * d14 + 5070602400912917605986812821504 * d18 + 11417981541647679048466287755595961091061972992 * d21 + 25711008708143844408671393477458601640355247900524685364822016 * d24) % pp)).l1), wd ((F5.of ((d11 + 2251799813685248 * d14 + 5070602400912917605986812821504 * d18 + 11417981541647679048466287755595961091061972992 * d21 + 25711008708143844408671393477458601640355247900524685364822016 * d24) % pp)).l2), wd ((F5.of ((d11 + 2251799813685248 * d14 + 5070602400912917605986812821504 * d18 + 11417981541647679048466287755595961091061972992 * d21 + 25711008708143844408671393477458601640355247900524685364822016 * d24) % pp)).l3), wd ((F5.of ((d11 + 2251799813685248 * d14 + 5070602400912917605986812821504 * d18 + 11417981541647679048466287755595961091061972992 * d21 + 25711008708143844408671393477458601640355247900524685364822016 * d24) % pp)).l4)], 31⟩, ⟨b1, [wd x.l0, wd x.l1, wd x.l2, wd x.l3, wd x.l4], 31⟩]) [wd ((F5.of ((d11 + 2251799813685248 * d14 + 5070602400912917605986812821504 * d18 + 11417981541647679048466287755595961091061972992 * d21 + 25711008708143844408671393477458601640355247900524685364822016 * d24) % pp)).l0), wd ((F5.of ((d11 + 2251799813685248 * d14 + 5070602400912917605986812821504 * d18 + 11417981541647679048466287755595961091061972992 * d21 + 25711008708143844408671393477458601640355247900524685364822016 * d24) % pp)).l1), wd ((F5.of ((d11 + 2251799813685248 * d14 + 5070602400912917605986812821504 * d18 + 11417981541647679048466287755595961091061972992 * d21 + 25711008708143844408671393477458601640355247900524685364822016 * d24) % pp)).l2), wd ((F5.of ((d11 + 2251799813685248 * d14 + 5070602400912917605986812821504 * d18 + 11417981541647679048466287755595961091061972992 * d21 + 25711008708143844408671393477458601640355247900524685364822016 * d24) % pp)).l3), wd ((F5.of ((d11 + 2251799813685248 * d14 + 5070602400912917605986812821504 * d18 + 11417981541647679048466287755595961091061972992 * d21 + 25711008708143844408671393477458601640355247900524685364822016 * d24) % pp)).l4)] 0 b2 0 [.int .u64 0, .int .u64 0, .int .u64 0, .int .u64 0, .int .u64 0] 31 rfl (by kernel_rfl) (by kernel_rfl) Tryd.sizeOf31 (by simp [Value.oneCell']) (by kernel_rfl) (by simp) (by kernel_rfl)) ?_
  refine D_nil ?_
  refine E_then ?_
  refine C_ret ?_
  have e : (x.val * x.val) % pp = (d11 + 2251799813685248 * d14 + 5070602400912917605986812821504 * d18 + 11417981541647679048466287755595961091061972992 * d21 + 25711008708143844408671393477458601640355247900524685364822016 * d24) % pp := by rw [show (d11 + 2251799813685248 * d14 + 5070602400912917605986812821504 * d18 + 11417981541647679048466287755595961091061972992 * d21 + 25711008708143844408671393477458601640355247900524685364822016 * d24) % pp = (x.val * x.val) % pp from fsq_law hx3 hx4 hx5 hx6 hx7 hx8 hx17 hd9 hd10 hd11 hd12 hd13 hd14 hd15 hd16 hd18 hd19 hd20 hd21 hd22 hd23 hd24]
  rw [e]
  exact pure_ret rfl (resC Tryd.results59 [wd ((F5.of ((d11 + 2251799813685248 * d14 + 5070602400912917605986812821504 * d18 + 11417981541647679048466287755595961091061972992 * d21 + 25711008708143844408671393477458601640355247900524685364822016 * d24) % pp)).l0), wd ((F5.of ((d11 + 2251799813685248 * d14 + 5070602400912917605986812821504 * d18 + 11417981541647679048466287755595961091061972992 * d21 + 25711008708143844408671393477458601640355247900524685364822016 * d24) % pp)).l1), wd ((F5.of ((d11 + 2251799813685248 * d14 + 5070602400912917605986812821504 * d18 + 11417981541647679048466287755595961091061972992 * d21 + 25711008708143844408671393477458601640355247900524685364822016 * d24) % pp)).l2), wd ((F5.of ((d11 + 2251799813685248 * d14 + 5070602400912917605986812821504 * d18 + 11417981541647679048466287755595961091061972992 * d21 + 25711008708143844408671393477458601640355247900524685364822016 * d24) % pp)).l3), wd ((F5.of ((d11 + 2251799813685248 * d14 + 5070602400912917605986812821504 * d18 + 11417981541647679048466287755595961091061972992 * d21 + 25711008708143844408671393477458601640355247900524685364822016 * d24) % pp)).l4)] 0 b2 31 (by kernel_rfl) Tryd.isAgg31 Tryd.sizeOf31 (by kernel_rfl))
theorem c_fsq_n (x : F5) (hx : x.ok) (sx : ¬ x.slim) : Pure Tryd.prog 59 #[F5.v x] ((F5.of ((x.val * x.val) % pp)).v) := by
  refine pure_of Tryd.func59 rfl (fun w0 => ?_)
  refine C_seq ?_
  refine C_region ?_
  refine S_newv (fun nb0 => pt nb0 0) [wd x.l0, wd x.l1, wd x.l2, wd x.l3, wd x.l4] 31 (by kernel_rfl) (fun w _ => by kernel_rfl) ?_
  intro b1 hb1 Hb1
  refine S_newv (fun nb0 => pt nb0 0) [.int .u64 0, .int .u64 0, .int .u64 0, .int .u64 0, .int .u64 0] 31 (by kernel_rfl) (fun w _ => by kernel_rfl) ?_
  intro b2 hb2 Hb2
  refine S_nil ?_
  refine E_then ?_
  refine C_seq ?_
  refine C_seq ?_
  refine C_region ?_
  refine S_val (F5.v x) (by kernel_rfl) (ldN [wd x.l0, wd x.l1, wd x.l2, wd x.l3, wd x.l4] 1 b1 0 [wd x.l0, wd x.l1, wd x.l2, wd x.l3, wd x.l4] 31 rfl (by kernel_rfl) Tryd.isAgg31 Tryd.sizeOf31 (by kernel_rfl) (by kernel_rfl)) ?_
  refine S_pure (v := .bool false) (by kernel_rfl) (c_slim_f x hx sx) (fun _ => by kernel_rfl) ?_
  refine S_v (.bool true) ?_
  refine S_nil ?_
  refine E_then ?_
  refine C_true (by kernel_rfl) ?_
  refine C_region ?_
  refine S_val (F5.v x) (by kernel_rfl) (ldN [wd x.l0, wd x.l1, wd x.l2, wd x.l3, wd x.l4] 1 b1 0 [wd x.l0, wd x.l1, wd x.l2, wd x.l3, wd x.l4] 31 rfl (by kernel_rfl) Tryd.isAgg31 Tryd.sizeOf31 (by kernel_rfl) (by kernel_rfl)) ?_
  refine S_pure (v := F5.v (F5.of (x.val % pp))) (by kernel_rfl) (c_fleast x hx) (fun _ => by kernel_rfl) ?_
  refine S_do (by kernel_rfl) (stN (L' := [⟨b2, [.int .u64 0, .int .u64 0, .int .u64 0, .int .u64 0, .int .u64 0], 31⟩, ⟨b1, [wd ((F5.of (x.val % pp)).l0), wd ((F5.of (x.val % pp)).l1), wd ((F5.of (x.val % pp)).l2), wd ((F5.of (x.val % pp)).l3), wd ((F5.of (x.val % pp)).l4)], 31⟩]) [wd ((F5.of (x.val % pp)).l0), wd ((F5.of (x.val % pp)).l1), wd ((F5.of (x.val % pp)).l2), wd ((F5.of (x.val % pp)).l3), wd ((F5.of (x.val % pp)).l4)] 1 b1 0 [wd x.l0, wd x.l1, wd x.l2, wd x.l3, wd x.l4] 31 rfl (by kernel_rfl) (by kernel_rfl) Tryd.sizeOf31 (by simp [Value.oneCell']) (by kernel_rfl) (by simp) (by kernel_rfl)) ?_
  refine S_nil ?_
  obtain ⟨X, hX⟩ : ∃ q, q = F5.of (x.val % pp) := ⟨_, rfl⟩
  have sX : X.slim := by rw [hX]; exact F5.of_slim _
  have vX : X.val = x.val % pp := by rw [hX]; exact F5.of_val (Nat.lt_trans (Nat.mod_lt _ (by decide)) (by decide))
  rw [← hX]
  refine E_forget (fun g => ⟨#[g 0, pt b1 0, pt b2 0, g 3, g 4, g 5, g 6, g 7, g 8, g 9, .bool false, .bool true, g 12, g 13, g 14, g 15, g 16, g 17, g 18, g 19, g 20, g 21, g 22, g 23, g 24, g 25, g 26, g 27, g 28, g 29, g 30, g 31, g 32, g 33, g 34, g 35, g 36, g 37, g 38, g 39, g 40, g 41, g 42, g 43, g 44, g 45, g 46, g 47, g 48, g 49, g 50, g 51, g 52, g 53, g 54, g 55, g 56, g 57, g 58, g 59, g 60, g 61, g 62, g 63, g 64, g 65, g 66, g 67, g 68, g 69, g 70, g 71, g 72, g 73, g 74, g 75, g 76, g 77, g 78, g 79, g 80, g 81, g 82, g 83, g 84, g 85, g 86, g 87, g 88, g 89, g 90, g 91, g 92, g 93, g 94, g 95, g 96, g 97, g 98, g 99, g 100, g 101], []⟩) (by kernel_rfl) ?_
  intro g
  refine E_then ?_
  refine C_seq ?_
  refine C_drawn [.pure, .held, .pure, .pure, .held, .pure, .pure, .held, .pure, .pure, .held, .pure, .pure, .pure, .pure, .pure] (by kernel_rfl) (by kernel_rfl) ?_
  refine D_v (pt b1 0) ?_
  refine D_held (wd X.l0) (by kernel_rfl) (ld1 1 b1 0 [wd X.l0, wd X.l1, wd X.l2, wd X.l3, wd X.l4] 31 rfl (by kernel_rfl) Tryd.isAgg29 (by kernel_rfl) (by kernel_rfl)) ?_
  obtain ⟨x3, hx3, ux3⟩ : ∃ q, q = 2 * X.l0 ∧ q ≤ 4503599627370494 := ⟨_, rfl, Nat.mul_le_mul (Nat.le_refl 2) sX.l0⟩
  refine D_val (wd x3) (by kernel_rfl) (fun _ => fv (v := .int .u64 (IntKind.u64.wrap (2 * ((X.l0 : Nat) : Int)))) ((vint (hx3 ▸ u_mul_lt 2 X.l0 4503599627370494 (hx3 ▸ ux3) (by decide)))) (by kernel_rfl)) ?_
  refine D_v (pt b1 1) ?_
  refine D_held (wd X.l1) (by kernel_rfl) (ld1 1 b1 1 [wd X.l0, wd X.l1, wd X.l2, wd X.l3, wd X.l4] 31 rfl (by kernel_rfl) Tryd.isAgg29 (by kernel_rfl) (by kernel_rfl)) ?_
  obtain ⟨x4, hx4, ux4⟩ : ∃ q, q = 2 * X.l1 ∧ q ≤ 4503599627370494 := ⟨_, rfl, Nat.mul_le_mul (Nat.le_refl 2) sX.l1⟩
  refine D_val (wd x4) (by kernel_rfl) (fun _ => fv (v := .int .u64 (IntKind.u64.wrap (2 * ((X.l1 : Nat) : Int)))) ((vint (hx4 ▸ u_mul_lt 2 X.l1 4503599627370494 (hx4 ▸ ux4) (by decide)))) (by kernel_rfl)) ?_
  refine D_v (pt b1 3) ?_
  refine D_held (wd X.l3) (by kernel_rfl) (ld1 1 b1 3 [wd X.l0, wd X.l1, wd X.l2, wd X.l3, wd X.l4] 31 rfl (by kernel_rfl) Tryd.isAgg29 (by kernel_rfl) (by kernel_rfl)) ?_
  obtain ⟨x5, hx5, ux5⟩ : ∃ q, q = 19 * X.l3 ∧ q ≤ 42784196460019693 := ⟨_, rfl, Nat.mul_le_mul (Nat.le_refl 19) sX.l3⟩
  refine D_val (wd x5) (by kernel_rfl) (fun _ => fv (v := .int .u64 (IntKind.u64.wrap (19 * ((X.l3 : Nat) : Int)))) ((vint (hx5 ▸ u_mul_lt 19 X.l3 42784196460019693 (hx5 ▸ ux5) (by decide)))) (by kernel_rfl)) ?_
  refine D_v (pt b1 4) ?_
  refine D_held (wd X.l4) (by kernel_rfl) (ld1 1 b1 4 [wd X.l0, wd X.l1, wd X.l2, wd X.l3, wd X.l4] 31 rfl (by kernel_rfl) Tryd.isAgg29 (by kernel_rfl) (by kernel_rfl)) ?_
  obtain ⟨x6, hx6, ux6⟩ : ∃ q, q = 19 * X.l4 ∧ q ≤ 42784196460019693 := ⟨_, rfl, Nat.mul_le_mul (Nat.le_refl 19) sX.l4⟩
  refine D_val (wd x6) (by kernel_rfl) (fun _ => fv (v := .int .u64 (IntKind.u64.wrap (19 * ((X.l4 : Nat) : Int)))) ((vint (hx6 ▸ u_mul_lt 19 X.l4 42784196460019693 (hx6 ▸ ux6) (by decide)))) (by kernel_rfl)) ?_
  refine D_v (wd x3) ?_
  refine D_v (wd x4) ?_
  refine D_v (wd x5) ?_
  refine D_v (wd x6) ?_
  refine D_nil ?_
  refine E_then ?_
  refine C_seq ?_
  refine C_drawn [.pure, .held, .pure, .pure, .held, .pure, .pure, .pure] (by kernel_rfl) (by kernel_rfl) ?_
  refine D_v (pt b1 1) ?_
  refine D_held (wd X.l1) (by kernel_rfl) (ld1 1 b1 1 [wd X.l0, wd X.l1, wd X.l2, wd X.l3, wd X.l4] 31 rfl (by kernel_rfl) Tryd.isAgg29 (by kernel_rfl) (by kernel_rfl)) ?_
  obtain ⟨x7, hx7, ux7⟩ : ∃ q, q = 38 * X.l1 ∧ q ≤ 85568392920039386 := ⟨_, rfl, Nat.mul_le_mul (Nat.le_refl 38) sX.l1⟩
  refine D_val (wd x7) (by kernel_rfl) (fun _ => fv (v := .int .u64 (IntKind.u64.wrap (38 * ((X.l1 : Nat) : Int)))) ((vint (hx7 ▸ u_mul_lt 38 X.l1 85568392920039386 (hx7 ▸ ux7) (by decide)))) (by kernel_rfl)) ?_
  refine D_v (pt b1 2) ?_
  refine D_held (wd X.l2) (by kernel_rfl) (ld1 1 b1 2 [wd X.l0, wd X.l1, wd X.l2, wd X.l3, wd X.l4] 31 rfl (by kernel_rfl) Tryd.isAgg29 (by kernel_rfl) (by kernel_rfl)) ?_
  obtain ⟨x8, hx8, ux8⟩ : ∃ q, q = 38 * X.l2 ∧ q ≤ 85568392920039386 := ⟨_, rfl, Nat.mul_le_mul (Nat.le_refl 38) sX.l2⟩
  refine D_val (wd x8) (by kernel_rfl) (fun _ => fv (v := .int .u64 (IntKind.u64.wrap (38 * ((X.l2 : Nat) : Int)))) ((vint (hx8 ▸ u_mul_lt 38 X.l2 85568392920039386 (hx8 ▸ ux8) (by decide)))) (by kernel_rfl)) ?_
  refine D_v (wd x7) ?_
  refine D_v (wd x8) ?_
  refine D_nil ?_
  refine E_then ?_
  refine C_seq ?_
  refine C_drawn [.pure, .pure, .held, .pure, .held, .held, .pure, .pure, .held, .held, .pure, .pure, .held, .held, .pure, .pure, .pure, .held, .held, .pure, .pure, .held, .held, .pure, .pure, .held, .held, .pure, .pure, .pure, .held, .held, .pure, .held, .pure, .held, .held, .pure, .pure, .pure, .held, .held, .pure, .pure, .pure, .held, .held, .pure, .pure, .held, .held, .pure, .pure, .held, .held, .pure, .pure, .pure, .held, .held, .pure, .pure, .held, .held, .pure, .held, .pure, .held, .held, .held, .eff] (by kernel_rfl) (by kernel_rfl) ?_
  refine D_v (.agg #[.int .u64 0, .int .u64 0]) ?_
  refine D_v (pt b1 0) ?_
  refine D_held (wd X.l0) (by kernel_rfl) (ld1 1 b1 0 [wd X.l0, wd X.l1, wd X.l2, wd X.l3, wd X.l4] 31 rfl (by kernel_rfl) Tryd.isAgg29 (by kernel_rfl) (by kernel_rfl)) ?_
  refine D_v (pt b1 0) ?_
  refine D_held (wd X.l0) (by kernel_rfl) (ld1 1 b1 0 [wd X.l0, wd X.l1, wd X.l2, wd X.l3, wd X.l4] 31 rfl (by kernel_rfl) Tryd.isAgg29 (by kernel_rfl) (by kernel_rfl)) ?_
  obtain ⟨d9, hd9, ud9, pd9⟩ := dplus_ex 0 X.l0 X.l0 0 2251799813685247 2251799813685247 5070602400912913102387185451009 (Nat.le_refl 0) sX.l0 sX.l0 (by decide) (by decide) (by decide) (by decide)
  refine D_pure (v := dv d9) (by kernel_rfl) pd9 (fun _ => by kernel_rfl) ?_
  refine D_v (wd x7) ?_
  refine D_v (pt b1 4) ?_
  refine D_held (wd X.l4) (by kernel_rfl) (ld1 1 b1 4 [wd X.l0, wd X.l1, wd X.l2, wd X.l3, wd X.l4] 31 rfl (by kernel_rfl) Tryd.isAgg29 (by kernel_rfl) (by kernel_rfl)) ?_
  obtain ⟨d10, hd10, ud10, pd10⟩ := dplus_ex d9 x7 X.l4 5070602400912913102387185451009 85568392920039386 2251799813685247 197753493635603610993100232589351 ud9 ux7 sX.l4 (by decide) (by decide) (by decide) (by decide)
  refine D_pure (v := dv d10) (by kernel_rfl) pd10 (fun _ => by kernel_rfl) ?_
  refine D_v (wd x8) ?_
  refine D_v (pt b1 3) ?_
  refine D_held (wd X.l3) (by kernel_rfl) (ld1 1 b1 3 [wd X.l0, wd X.l1, wd X.l2, wd X.l3, wd X.l4] 31 rfl (by kernel_rfl) Tryd.isAgg29 (by kernel_rfl) (by kernel_rfl)) ?_
  obtain ⟨d11, hd11, ud11, pd11⟩ := dplus_ex d10 x8 X.l3 197753493635603610993100232589351 85568392920039386 2251799813685247 390436384870294308883813279727693 ud10 ux8 sX.l3 (by decide) (by decide) (by decide) (by decide)
  refine D_pure (v := dv d11) (by kernel_rfl) pd11 (fun _ => by kernel_rfl) ?_
  refine D_v (.agg #[.int .u64 0, .int .u64 0]) ?_
  refine D_v (wd x3) ?_
  refine D_v (pt b1 1) ?_
  refine D_held (wd X.l1) (by kernel_rfl) (ld1 1 b1 1 [wd X.l0, wd X.l1, wd X.l2, wd X.l3, wd X.l4] 31 rfl (by kernel_rfl) Tryd.isAgg29 (by kernel_rfl) (by kernel_rfl)) ?_
  obtain ⟨d12, hd12, ud12, pd12⟩ := dplus_ex 0 x3 X.l1 0 4503599627370494 2251799813685247 10141204801825826204774370902018 (Nat.le_refl 0) ux3 sX.l1 (by decide) (by decide) (by decide) (by decide)
  refine D_pure (v := dv d12) (by kernel_rfl) pd12 (fun _ => by kernel_rfl) ?_
  refine D_v (wd x8) ?_
  refine D_v (pt b1 4) ?_
  refine D_held (wd X.l4) (by kernel_rfl) (ld1 1 b1 4 [wd X.l0, wd X.l1, wd X.l2, wd X.l3, wd X.l4] 31 rfl (by kernel_rfl) Tryd.isAgg29 (by kernel_rfl) (by kernel_rfl)) ?_
  obtain ⟨d13, hd13, ud13, pd13⟩ := dplus_ex d12 x8 X.l4 10141204801825826204774370902018 85568392920039386 2251799813685247 202824096036516524095487418040360 ud12 ux8 sX.l4 (by decide) (by decide) (by decide) (by decide)
  refine D_pure (v := dv d13) (by kernel_rfl) pd13 (fun _ => by kernel_rfl) ?_
  refine D_v (wd x5) ?_
  refine D_v (pt b1 3) ?_
  refine D_held (wd X.l3) (by kernel_rfl) (ld1 1 b1 3 [wd X.l0, wd X.l1, wd X.l2, wd X.l3, wd X.l4] 31 rfl (by kernel_rfl) Tryd.isAgg29 (by kernel_rfl) (by kernel_rfl)) ?_
  obtain ⟨d14, hd14, ud14, pd14⟩ := dplus_ex d13 x5 X.l3 202824096036516524095487418040360 42784196460019693 2251799813685247 299165541653861873040843941609531 ud13 ux5 sX.l3 (by decide) (by decide) (by decide) (by decide)
  refine D_pure (v := dv d14) (by kernel_rfl) pd14 (fun _ => by kernel_rfl) ?_
  refine D_v (.agg #[.int .u64 0, .int .u64 0]) ?_
  refine D_v (wd x3) ?_
  refine D_v (pt b1 2) ?_
  refine D_held (wd X.l2) (by kernel_rfl) (ld1 1 b1 2 [wd X.l0, wd X.l1, wd X.l2, wd X.l3, wd X.l4] 31 rfl (by kernel_rfl) Tryd.isAgg29 (by kernel_rfl) (by kernel_rfl)) ?_
  obtain ⟨d15, hd15, ud15, pd15⟩ := dplus_ex 0 x3 X.l2 0 4503599627370494 2251799813685247 10141204801825826204774370902018 (Nat.le_refl 0) ux3 sX.l2 (by decide) (by decide) (by decide) (by decide)
  refine D_pure (v := dv d15) (by kernel_rfl) pd15 (fun _ => by kernel_rfl) ?_
  refine D_v (pt b1 1) ?_
  refine D_held (wd X.l1) (by kernel_rfl) (ld1 1 b1 1 [wd X.l0, wd X.l1, wd X.l2, wd X.l3, wd X.l4] 31 rfl (by kernel_rfl) Tryd.isAgg29 (by kernel_rfl) (by kernel_rfl)) ?_
  refine D_v (pt b1 1) ?_
  refine D_held (wd X.l1) (by kernel_rfl) (ld1 1 b1 1 [wd X.l0, wd X.l1, wd X.l2, wd X.l3, wd X.l4] 31 rfl (by kernel_rfl) Tryd.isAgg29 (by kernel_rfl) (by kernel_rfl)) ?_
  obtain ⟨d16, hd16, ud16, pd16⟩ := dplus_ex d15 X.l1 X.l1 10141204801825826204774370902018 2251799813685247 2251799813685247 15211807202738739307161556353027 ud15 sX.l1 sX.l1 (by decide) (by decide) (by decide) (by decide)
  refine D_pure (v := dv d16) (by kernel_rfl) pd16 (fun _ => by kernel_rfl) ?_
  refine D_v (wd x5) ?_
  obtain ⟨x17, hx17, ux17⟩ : ∃ q, q = 2 * x5 ∧ q ≤ 85568392920039386 := ⟨_, rfl, Nat.mul_le_mul (Nat.le_refl 2) ux5⟩
  refine D_val (wd x17) (by kernel_rfl) (fun _ => fv (v := .int .u64 (IntKind.u64.wrap (2 * ((x5 : Nat) : Int)))) ((vint (hx17 ▸ u_mul_lt 2 x5 85568392920039386 (hx17 ▸ ux17) (by decide)))) (by kernel_rfl)) ?_
  refine D_v (pt b1 4) ?_
  refine D_held (wd X.l4) (by kernel_rfl) (ld1 1 b1 4 [wd X.l0, wd X.l1, wd X.l2, wd X.l3, wd X.l4] 31 rfl (by kernel_rfl) Tryd.isAgg29 (by kernel_rfl) (by kernel_rfl)) ?_
  obtain ⟨d18, hd18, ud18, pd18⟩ := dplus_ex d16 x17 X.l4 15211807202738739307161556353027 85568392920039386 2251799813685247 207894698437429437197874603491369 ud16 ux17 sX.l4 (by decide) (by decide) (by decide) (by decide)
  refine D_pure (v := dv d18) (by kernel_rfl) pd18 (fun _ => by kernel_rfl) ?_
  refine D_v (.agg #[.int .u64 0, .int .u64 0]) ?_
  refine D_v (wd x3) ?_
  refine D_v (pt b1 3) ?_
  refine D_held (wd X.l3) (by kernel_rfl) (ld1 1 b1 3 [wd X.l0, wd X.l1, wd X.l2, wd X.l3, wd X.l4] 31 rfl (by kernel_rfl) Tryd.isAgg29 (by kernel_rfl) (by kernel_rfl)) ?_
  obtain ⟨d19, hd19, ud19, pd19⟩ := dplus_ex 0 x3 X.l3 0 4503599627370494 2251799813685247 10141204801825826204774370902018 (Nat.le_refl 0) ux3 sX.l3 (by decide) (by decide) (by decide) (by decide)
  refine D_pure (v := dv d19) (by kernel_rfl) pd19 (fun _ => by kernel_rfl) ?_
  refine D_v (wd x4) ?_
  refine D_v (pt b1 2) ?_
  refine D_held (wd X.l2) (by kernel_rfl) (ld1 1 b1 2 [wd X.l0, wd X.l1, wd X.l2, wd X.l3, wd X.l4] 31 rfl (by kernel_rfl) Tryd.isAgg29 (by kernel_rfl) (by kernel_rfl)) ?_
  obtain ⟨d20, hd20, ud20, pd20⟩ := dplus_ex d19 x4 X.l2 10141204801825826204774370902018 4503599627370494 2251799813685247 20282409603651652409548741804036 ud19 ux4 sX.l2 (by decide) (by decide) (by decide) (by decide)
  refine D_pure (v := dv d20) (by kernel_rfl) pd20 (fun _ => by kernel_rfl) ?_
  refine D_v (wd x6) ?_
  refine D_v (pt b1 4) ?_
  refine D_held (wd X.l4) (by kernel_rfl) (ld1 1 b1 4 [wd X.l0, wd X.l1, wd X.l2, wd X.l3, wd X.l4] 31 rfl (by kernel_rfl) Tryd.isAgg29 (by kernel_rfl) (by kernel_rfl)) ?_
  obtain ⟨d21, hd21, ud21, pd21⟩ := dplus_ex d20 x6 X.l4 20282409603651652409548741804036 42784196460019693 2251799813685247 116623855220997001354905265373207 ud20 ux6 sX.l4 (by decide) (by decide) (by decide) (by decide)
  refine D_pure (v := dv d21) (by kernel_rfl) pd21 (fun _ => by kernel_rfl) ?_
  refine D_v (.agg #[.int .u64 0, .int .u64 0]) ?_
  refine D_v (wd x3) ?_
  refine D_v (pt b1 4) ?_
  refine D_held (wd X.l4) (by kernel_rfl) (ld1 1 b1 4 [wd X.l0, wd X.l1, wd X.l2, wd X.l3, wd X.l4] 31 rfl (by kernel_rfl) Tryd.isAgg29 (by kernel_rfl) (by kernel_rfl)) ?_
  obtain ⟨d22, hd22, ud22, pd22⟩ := dplus_ex 0 x3 X.l4 0 4503599627370494 2251799813685247 10141204801825826204774370902018 (Nat.le_refl 0) ux3 sX.l4 (by decide) (by decide) (by decide) (by decide)
  refine D_pure (v := dv d22) (by kernel_rfl) pd22 (fun _ => by kernel_rfl) ?_
  refine D_v (wd x4) ?_
  refine D_v (pt b1 3) ?_
  refine D_held (wd X.l3) (by kernel_rfl) (ld1 1 b1 3 [wd X.l0, wd X.l1, wd X.l2, wd X.l3, wd X.l4] 31 rfl (by kernel_rfl) Tryd.isAgg29 (by kernel_rfl) (by kernel_rfl)) ?_
  obtain ⟨d23, hd23, ud23, pd23⟩ := dplus_ex d22 x4 X.l3 10141204801825826204774370902018 4503599627370494 2251799813685247 20282409603651652409548741804036 ud22 ux4 sX.l3 (by decide) (by decide) (by decide) (by decide)
  refine D_pure (v := dv d23) (by kernel_rfl) pd23 (fun _ => by kernel_rfl) ?_
  refine D_v (pt b1 2) ?_
  refine D_held (wd X.l2) (by kernel_rfl) (ld1 1 b1 2 [wd X.l0, wd X.l1, wd X.l2, wd X.l3, wd X.l4] 31 rfl (by kernel_rfl) Tryd.isAgg29 (by kernel_rfl) (by kernel_rfl)) ?_
  refine D_v (pt b1 2) ?_
  refine D_held (wd X.l2) (by kernel_rfl) (ld1 1 b1 2 [wd X.l0, wd X.l1, wd X.l2, wd X.l3, wd X.l4] 31 rfl (by kernel_rfl) Tryd.isAgg29 (by kernel_rfl) (by kernel_rfl)) ?_
  obtain ⟨d24, hd24, ud24, pd24⟩ := dplus_ex d23 X.l2 X.l2 20282409603651652409548741804036 2251799813685247 2251799813685247 25353012004564565511935927255045 ud23 sX.l2 sX.l2 (by decide) (by decide) (by decide) (by decide)
  refine D_pure (v := dv d24) (by kernel_rfl) pd24 (fun _ => by kernel_rfl) ?_
  refine D_pure (v := F5.v (F5.of ((d11 + 2251799813685248 * d14 + 5070602400912917605986812821504 * d18 + 11417981541647679048466287755595961091061972992 * d21 + 25711008708143844408671393477458601640355247900524685364822016 * d24) % pp))) (by kernel_rfl) (c_carried d11 d14 d18 d21 d24 (Nat.le_trans ud11 (by decide)) (Nat.le_trans ud14 (by decide)) (Nat.le_trans ud18 (by decide)) (Nat.le_trans ud21 (by decide)) (Nat.le_trans ud24 (by decide))) (fun _ => by kernel_rfl) ?_
  refine D_do (by kernel_rfl) (stN (L' := [⟨b2, [wd ((F5.of ((d11 + 2251799813685248 * d14 + 5070602400912917605986812821504 * d18 + 11417981541647679048466287755595961091061972992 * d21 + 25711008708143844408671393477458601640355247900524685364822016 * d24) % pp)).l0), wd ((F5.of ((d11 + 2251799813685248 * d14 + 5070602400912917605986812821504 * d18 + 11417981541647679048466287755595961091061972992 * d21 + 25711008708143844408671393477458601640355247900524685364822016 * d24) % pp)).l1), wd ((F5.of ((d11 + 2251799813685248 * d14 + 5070602400912917605986812821504 * d18 + 11417981541647679048466287755595961091061972992 * d21 + 25711008708143844408671393477458601640355247900524685364822016 * d24) % pp)).l2), wd ((F5.of ((d11 + 2251799813685248 * d14 + 5070602400912917605986812821504 * d18 + 11417981541647679048466287755595961091061972992 * d21 + 25711008708143844408671393477458601640355247900524685364822016 * d24) % pp)).l3), wd ((F5.of ((d11 + 2251799813685248 * d14 + 5070602400912917605986812821504 * d18 + 11417981541647679048466287755595961091061972992 * d21 + 25711008708143844408671393477458601640355247900524685364822016 * d24) % pp)).l4)], 31⟩, ⟨b1, [wd X.l0, wd X.l1, wd X.l2, wd X.l3, wd X.l4], 31⟩]) [wd ((F5.of ((d11 + 2251799813685248 * d14 + 5070602400912917605986812821504 * d18 + 11417981541647679048466287755595961091061972992 * d21 + 25711008708143844408671393477458601640355247900524685364822016 * d24) % pp)).l0), wd ((F5.of ((d11 + 2251799813685248 * d14 + 5070602400912917605986812821504 * d18 + 11417981541647679048466287755595961091061972992 * d21 + 25711008708143844408671393477458601640355247900524685364822016 * d24) % pp)).l1), wd ((F5.of ((d11 + 2251799813685248 * d14 + 5070602400912917605986812821504 * d18 + 11417981541647679048466287755595961091061972992 * d21 + 25711008708143844408671393477458601640355247900524685364822016 * d24) % pp)).l2), wd ((F5.of ((d11 + 2251799813685248 * d14 + 5070602400912917605986812821504 * d18 + 11417981541647679048466287755595961091061972992 * d21 + 25711008708143844408671393477458601640355247900524685364822016 * d24) % pp)).l3), wd ((F5.of ((d11 + 2251799813685248 * d14 + 5070602400912917605986812821504 * d18 + 11417981541647679048466287755595961091061972992 * d21 + 25711008708143844408671393477458601640355247900524685364822016 * d24) % pp)).l4)] 0 b2 0 [.int .u64 0, .int .u64 0, .int .u64 0, .int .u64 0, .int .u64 0] 31 rfl (by kernel_rfl) (by kernel_rfl) Tryd.sizeOf31 (by simp [Value.oneCell']) (by kernel_rfl) (by simp) (by kernel_rfl)) ?_
  refine D_nil ?_
  refine E_then ?_
  refine C_ret ?_
  have e : (x.val * x.val) % pp = (d11 + 2251799813685248 * d14 + 5070602400912917605986812821504 * d18 + 11417981541647679048466287755595961091061972992 * d21 + 25711008708143844408671393477458601640355247900524685364822016 * d24) % pp := by rw [show (d11 + 2251799813685248 * d14 + 5070602400912917605986812821504 * d18 + 11417981541647679048466287755595961091061972992 * d21 + 25711008708143844408671393477458601640355247900524685364822016 * d24) % pp = (X.val * X.val) % pp from fsq_law hx3 hx4 hx5 hx6 hx7 hx8 hx17 hd9 hd10 hd11 hd12 hd13 hd14 hd15 hd16 hd18 hd19 hd20 hd21 hd22 hd23 hd24]; rw [vX, ← Nat.mul_mod]
  rw [e]
  exact pure_ret rfl (resC Tryd.results59 [wd ((F5.of ((d11 + 2251799813685248 * d14 + 5070602400912917605986812821504 * d18 + 11417981541647679048466287755595961091061972992 * d21 + 25711008708143844408671393477458601640355247900524685364822016 * d24) % pp)).l0), wd ((F5.of ((d11 + 2251799813685248 * d14 + 5070602400912917605986812821504 * d18 + 11417981541647679048466287755595961091061972992 * d21 + 25711008708143844408671393477458601640355247900524685364822016 * d24) % pp)).l1), wd ((F5.of ((d11 + 2251799813685248 * d14 + 5070602400912917605986812821504 * d18 + 11417981541647679048466287755595961091061972992 * d21 + 25711008708143844408671393477458601640355247900524685364822016 * d24) % pp)).l2), wd ((F5.of ((d11 + 2251799813685248 * d14 + 5070602400912917605986812821504 * d18 + 11417981541647679048466287755595961091061972992 * d21 + 25711008708143844408671393477458601640355247900524685364822016 * d24) % pp)).l3), wd ((F5.of ((d11 + 2251799813685248 * d14 + 5070602400912917605986812821504 * d18 + 11417981541647679048466287755595961091061972992 * d21 + 25711008708143844408671393477458601640355247900524685364822016 * d24) % pp)).l4)] 0 b2 31 (by kernel_rfl) Tryd.isAgg31 Tryd.sizeOf31 (by kernel_rfl))
theorem c_fsq (x : F5) (hx : x.ok) : Pure Tryd.prog 59 #[x.v] ((F5.of ((x.val * x.val) % pp)).v) := by
  by_cases sx : x.slim
  · exact c_fsq_s x hx sx
  · exact c_fsq_n x hx sx
end Go.Vk
