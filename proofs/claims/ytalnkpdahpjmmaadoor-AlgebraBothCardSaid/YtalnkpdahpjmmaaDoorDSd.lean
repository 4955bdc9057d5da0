/- What functions of the program do: walks, printed by a program of my own. -/
import Derived.Test.YtalnkpdahpjmmaaDoorDSc
set_option linter.unusedVariables false
set_option linter.unusedSimpArgs false
namespace Go.Vk
open Go Go.RowKit Go.Proofs Go.Vk.Num
set_option linter.unusedVariables false
theorem pref_top (e n : Nat) : e % 2 ^ n / 2 ^ n = 0 := Nat.div_eq_of_lt (Nat.mod_lt _ (Nat.two_pow_pos n))
theorem pref_step (E k : Nat) : E / 2 ^ k = 2 * (E / 2 ^ (k + 1)) + E / 2 ^ k % 2 := by
  rw [Nat.pow_succ, ← Nat.div_div_eq_div_mul]; omega
theorem pow_bit0 {a E k : Nat} (h : ¬ (E / 2 ^ k % 2 = 1)) : a ^ (E / 2 ^ (k + 1)) * a ^ (E / 2 ^ (k + 1)) = a ^ (E / 2 ^ k) := by
  rw [← Nat.pow_add]; congr 1; have := pref_step E k; omega
theorem pow_bit1 {a E k : Nat} (h : E / 2 ^ k % 2 = 1) : a ^ (E / 2 ^ (k + 1)) * a ^ (E / 2 ^ (k + 1)) * a = a ^ (E / 2 ^ k) := by
  rw [← Nat.pow_add, ← Nat.pow_succ]; congr 1; have := pref_step E k; omega
theorem pow_skip {a q : Nat} (h : q = 0) : a ^ q = a ^ q * a ^ q := by subst h; rfl
theorem c_power (w0 : World) (hT : GV 0 tbS w0) (a ee n : Nat) (ha : a < W256) (he : ee < W256) (hn : n ≤ 256) : Calls Tryd.prog 31 #[sc4 a, sc4 ee, .int .i64 ((n : Nat) : Int)] w0 fun e w' => e = .returned (sc4 (a ^ (ee % 2 ^ n) % ll)) ∧ Below w0.heap.size w0 w' := by
  refine calls_start Tryd.func31 rfl ?_
  refine C_seq ?_
  refine C_region ?_
  refine S_newv (fun nb0 => pt nb0 0) [wd (lb a 0), wd (lb a 1), wd (lb a 2), wd (lb a 3)] 34 (by kernel_rfl) (fun w _ => by kernel_rfl) ?_
  intro b1 hb1 Hb1
  refine S_newv (fun nb0 => pt nb0 0) [wd (lb ee 0), wd (lb ee 1), wd (lb ee 2), wd (lb ee 3)] 34 (by kernel_rfl) (fun w _ => by kernel_rfl) ?_
  intro b2 hb2 Hb2
  refine S_newv (fun nb0 => pt nb0 0) [.int .u64 0, .int .u64 0, .int .u64 0, .int .u64 0] 34 (by kernel_rfl) (fun w _ => by kernel_rfl) ?_
  intro b3 hb3 Hb3
  refine S_nil ?_
  refine E_then ?_
  refine C_seq ?_
  refine C_drawn [.held, .held, .pure, .held, .held, .new, .eff] (by kernel_rfl) (by kernel_rfl) ?_
  refine D_held (sc4 a) (by kernel_rfl) (ldN [wd (lb a 0), wd (lb a 1), wd (lb a 2), wd (lb a 3)] 2 b1 0 [wd (lb a 0), wd (lb a 1), wd (lb a 2), wd (lb a 3)] 34 rfl (by kernel_rfl) Tryd.isAgg34 Tryd.sizeOf34 (by kernel_rfl) (by kernel_rfl)) ?_
  refine D_call (sc4 (a % ll)) (by kernel_rfl) (fun _ _ => by kernel_rfl) (fun w hO => (c_least w (hT.own hO) a ha)) ?_
  refine D_v (pt 0 8) ?_
  refine D_held (.agg #[.int .u64 11819153939886771969, .int .u64 14991950615390032711, .int .u64 14910419812499177061, .int .u64 259310039853996605]) (by kernel_rfl) (ldNo [.int .u64 11819153939886771969, .int .u64 14991950615390032711, .int .u64 14910419812499177061, .int .u64 259310039853996605] 0 8 rfl (by kernel_rfl) Tryd.isAgg34 Tryd.sizeOf34 (hT.sub 8 [.int .u64 11819153939886771969, .int .u64 14991950615390032711, .int .u64 14910419812499177061, .int .u64 259310039853996605] (by kernel_rfl))) ?_
  have hC4 := fun (w : World) (hG : GV 0 tbS w) => c_product w hG (a % ll) R2 (Nat.mod_lt _ (by decide)) (by decide)
  rw [mf_of] at hC4
  refine D_call (sc4 (mf a)) (by kernel_rfl) (fun _ _ => by kernel_rfl) (fun w hO => (hC4 w (hT.own hO))) ?_
  refine D_fresh (fun nb0 => pt nb0 0) [.int .u64 0, .int .u64 0, .int .u64 0, .int .u64 0] 34 (by kernel_rfl) (fun w _ => by kernel_rfl) ?_
  intro b5 hb5 Hb5
  refine D_do (by kernel_rfl) (stN (L' := [⟨b5, [wd (lb (mf a) 0), wd (lb (mf a) 1), wd (lb (mf a) 2), wd (lb (mf a) 3)], 34⟩, ⟨b3, [.int .u64 0, .int .u64 0, .int .u64 0, .int .u64 0], 34⟩, ⟨b2, [wd (lb ee 0), wd (lb ee 1), wd (lb ee 2), wd (lb ee 3)], 34⟩, ⟨b1, [wd (lb a 0), wd (lb a 1), wd (lb a 2), wd (lb a 3)], 34⟩]) [wd (lb (mf a) 0), wd (lb (mf a) 1), wd (lb (mf a) 2), wd (lb (mf a) 3)] 0 b5 0 [.int .u64 0, .int .u64 0, .int .u64 0, .int .u64 0] 34 rfl (by kernel_rfl) (by kernel_rfl) Tryd.sizeOf34 (by simp [Value.oneCell']) (by kernel_rfl) (by simp) (by kernel_rfl)) ?_
  refine D_nil ?_
  refine E_then ?_
  refine C_seq ?_
  refine C_region ?_
  refine S_v (pt 0 4) ?_
  refine S_val (.agg #[.int .u64 15486807595281847581, .int .u64 14334777244411350896, .int .u64 18446744073709551614, .int .u64 1152921504606846975]) (by kernel_rfl) (ldNo [.int .u64 15486807595281847581, .int .u64 14334777244411350896, .int .u64 18446744073709551614, .int .u64 1152921504606846975] 0 4 rfl (by kernel_rfl) Tryd.isAgg34 Tryd.sizeOf34 (hT.sub 4 [.int .u64 15486807595281847581, .int .u64 14334777244411350896, .int .u64 18446744073709551614, .int .u64 1152921504606846975] (by kernel_rfl))) ?_
  refine S_newv (fun nb0 => pt nb0 0) [.int .u64 0, .int .u64 0, .int .u64 0, .int .u64 0] 34 (by kernel_rfl) (fun w _ => by kernel_rfl) ?_
  intro b6 hb6 Hb6
  refine S_do (by kernel_rfl) (stN (L' := [⟨b6, [.int .u64 15486807595281847581, .int .u64 14334777244411350896, .int .u64 18446744073709551614, .int .u64 1152921504606846975], 34⟩, ⟨b5, [wd (lb (mf a) 0), wd (lb (mf a) 1), wd (lb (mf a) 2), wd (lb (mf a) 3)], 34⟩, ⟨b3, [.int .u64 0, .int .u64 0, .int .u64 0, .int .u64 0], 34⟩, ⟨b2, [wd (lb ee 0), wd (lb ee 1), wd (lb ee 2), wd (lb ee 3)], 34⟩, ⟨b1, [wd (lb a 0), wd (lb a 1), wd (lb a 2), wd (lb a 3)], 34⟩]) [.int .u64 15486807595281847581, .int .u64 14334777244411350896, .int .u64 18446744073709551614, .int .u64 1152921504606846975] 0 b6 0 [.int .u64 0, .int .u64 0, .int .u64 0, .int .u64 0] 34 rfl (by kernel_rfl) (by kernel_rfl) Tryd.sizeOf34 (by simp [Value.oneCell']) (by kernel_rfl) (by simp) (by kernel_rfl)) ?_
  refine S_nil ?_
  refine E_then ?_
  refine C_seq ?_
  refine C_region ?_
  refine S_v (.bool false) ?_
  refine S_nil ?_
  refine E_then ?_
  refine C_seq ?_
  refine C_seq ?_
  refine C_region ?_
  refine S_v (.int .i64 ((n : Nat) : Int)) ?_
  refine S_val (.int .i64 (((n : Nat) : Int) - 1)) (by kernel_rfl) (fun _ _ => fv (v := .int .i64 (IntKind.i64.wrap (((n : Nat) : Int) - 1))) (vint (w64 rfl (by omega) (by omega))) (by kernel_rfl)) ?_
  refine S_v (.int .i64 (((n : Nat) : Int) - 1)) ?_
  refine S_nil ?_
  have hf0 : decide (ee % 2 ^ n / 2 ^ n ≠ 0) = false := by rw [pref_top]; rfl
  refine E_forget (fun g => ⟨#[sc4 a, sc4 ee, .int .i64 ((n : Nat) : Int), pt b1 0, pt b2 0, g 5, pt b3 0, pt b5 0, pt b6 0, .bool (decide (ee % 2 ^ n / 2 ^ n ≠ 0)), .int .i64 (((n : Nat) : Int) - 1), sc4 a, sc4 (a % ll), pt 0 8, .agg #[.int .u64 11819153939886771969, .int .u64 14991950615390032711, .int .u64 14910419812499177061, .int .u64 259310039853996605], sc4 (mf a), pt 0 4, .agg #[.int .u64 15486807595281847581, .int .u64 14334777244411350896, .int .u64 18446744073709551614, .int .u64 1152921504606846975], .int .i64 ((n : Nat) : Int), .int .i64 (((n : Nat) : Int) - 1), g 20, g 21, g 22, g 23, g 24, g 25, g 26, g 27, g 28, g 29, g 30, g 31, g 32, g 33, g 34, g 35, g 36, g 37, g 38, g 39, g 40, g 41, g 42], []⟩) (by rw [hf0]; kernel_rfl) ?_
  intro g
  refine E_then ?_
  refine C_block ?_
  refine C_loop1 (fun (m : Nat) => (m ≤ n)) (fun (m : Nat) => fun g => ⟨#[g 0, g 1, g 2, g 3, pt b2 0, g 5, pt b3 0, pt b5 0, pt b6 0, .bool (decide (ee % 2 ^ n / 2 ^ m ≠ 0)), .int .i64 (((m : Nat) : Int) - 1), g 11, g 12, g 13, g 14, g 15, g 16, g 17, g 18, g 19, g 20, g 21, g 22, g 23, g 24, g 25, g 26, g 27, g 28, g 29, g 30, g 31, g 32, g 33, g 34, g 35, g 36, g 37, g 38, g 39, g 40, g 41, g 42], []⟩) (fun (m : Nat) => [⟨b6, [wd (lb (mf (a ^ (ee % 2 ^ n / 2 ^ m))) 0), wd (lb (mf (a ^ (ee % 2 ^ n / 2 ^ m))) 1), wd (lb (mf (a ^ (ee % 2 ^ n / 2 ^ m))) 2), wd (lb (mf (a ^ (ee % 2 ^ n / 2 ^ m))) 3)], 34⟩, ⟨b5, [wd (lb (mf a) 0), wd (lb (mf a) 1), wd (lb (mf a) 2), wd (lb (mf a) 3)], 34⟩, ⟨b3, [.int .u64 0, .int .u64 0, .int .u64 0, .int .u64 0], 34⟩, ⟨b2, [wd (lb ee 0), wd (lb ee 1), wd (lb ee 2), wd (lb ee 3)], 34⟩, ⟨b1, [wd (lb a 0), wd (lb a 1), wd (lb a 2), wd (lb a 3)], 34⟩]) (fun (m : Nat) => m) n (by (try dsimp only); exact Nat.le_refl _) (by kernel_rfl) (by first | (dsimp only; done) | ((try dsimp only); rw [pref_top, Nat.pow_zero, mf_one]; kernel_rfl)) ?_
  rintro m g7 hm
  refine C_seq ?_
  refine C_seq ?_
  refine C_region ?_
  refine S_v (.int .i64 (((m : Nat) : Int) - 1)) ?_
  refine S_v (.bool (decide (((m : Nat) : Int) - 1 ≥ 0))) ?_
  refine S_nil ?_
  refine E_then ?_
  refine C_if (decide (((m : Nat) : Int) - 1 ≥ 0)) (by kernel_rfl) (fun hc => ?_) (fun hc => ?_)
  · replace hc := of_decide_eq_true hc
    obtain ⟨k, rfl⟩ : ∃ k, m = k + 1 := ⟨m - 1, by omega⟩
    have hk : k < n := by omega
    refine C_skip ?_
    refine E_then ?_
    refine C_seq ?_
    refine C_block ?_
    refine C_seq ?_
    refine C_seq ?_
    refine C_region ?_
    refine S_v (.bool (decide (ee % 2 ^ n / 2 ^ (k + 1) ≠ 0))) ?_
    refine S_nil ?_
    refine E_then ?_
    refine C_if (decide (ee % 2 ^ n / 2 ^ (k + 1) ≠ 0)) (by kernel_rfl) (fun hs => ?_) (fun hs => ?_)
    · refine C_region ?_
      refine S_val (sc4 (mf (a ^ (ee % 2 ^ n / 2 ^ (k + 1))))) (by kernel_rfl) (ldN [wd (lb (mf (a ^ (ee % 2 ^ n / 2 ^ (k + 1)))) 0), wd (lb (mf (a ^ (ee % 2 ^ n / 2 ^ (k + 1)))) 1), wd (lb (mf (a ^ (ee % 2 ^ n / 2 ^ (k + 1)))) 2), wd (lb (mf (a ^ (ee % 2 ^ n / 2 ^ (k + 1)))) 3)] 0 b6 0 [wd (lb (mf (a ^ (ee % 2 ^ n / 2 ^ (k + 1)))) 0), wd (lb (mf (a ^ (ee % 2 ^ n / 2 ^ (k + 1)))) 1), wd (lb (mf (a ^ (ee % 2 ^ n / 2 ^ (k + 1)))) 2), wd (lb (mf (a ^ (ee % 2 ^ n / 2 ^ (k + 1)))) 3)] 34 rfl (by kernel_rfl) Tryd.isAgg34 Tryd.sizeOf34 (by kernel_rfl) (by kernel_rfl)) ?_
      refine S_val (sc4 (mf (a ^ (ee % 2 ^ n / 2 ^ (k + 1))))) (by kernel_rfl) (ldN [wd (lb (mf (a ^ (ee % 2 ^ n / 2 ^ (k + 1)))) 0), wd (lb (mf (a ^ (ee % 2 ^ n / 2 ^ (k + 1)))) 1), wd (lb (mf (a ^ (ee % 2 ^ n / 2 ^ (k + 1)))) 2), wd (lb (mf (a ^ (ee % 2 ^ n / 2 ^ (k + 1)))) 3)] 0 b6 0 [wd (lb (mf (a ^ (ee % 2 ^ n / 2 ^ (k + 1)))) 0), wd (lb (mf (a ^ (ee % 2 ^ n / 2 ^ (k + 1)))) 1), wd (lb (mf (a ^ (ee % 2 ^ n / 2 ^ (k + 1)))) 2), wd (lb (mf (a ^ (ee % 2 ^ n / 2 ^ (k + 1)))) 3)] 34 rfl (by kernel_rfl) Tryd.isAgg34 Tryd.sizeOf34 (by kernel_rfl) (by kernel_rfl)) ?_
      have hC8 := fun (w : World) (hG : GV 0 tbS w) => c_product w hG (mf (a ^ (ee % 2 ^ n / 2 ^ (k + 1)))) (mf (a ^ (ee % 2 ^ n / 2 ^ (k + 1)))) (mf_lt _) (mf_lt _)
      rw [mf_mul] at hC8
      refine S_call (by kernel_rfl) (fun _ _ => by kernel_rfl) (fun w hO => ((hC8 w (hT.own hO))).mono fun _ _ ⟨he, hb⟩ => ⟨sc4 (mf ((a ^ (ee % 2 ^ n / 2 ^ (k + 1))) * (a ^ (ee % 2 ^ n / 2 ^ (k + 1))))), _, he, hO.call hb, ?_⟩)
      refine S_do (by kernel_rfl) (stN (L' := [⟨b6, [wd (lb (mf ((a ^ (ee % 2 ^ n / 2 ^ (k + 1))) * (a ^ (ee % 2 ^ n / 2 ^ (k + 1))))) 0), wd (lb (mf ((a ^ (ee % 2 ^ n / 2 ^ (k + 1))) * (a ^ (ee % 2 ^ n / 2 ^ (k + 1))))) 1), wd (lb (mf ((a ^ (ee % 2 ^ n / 2 ^ (k + 1))) * (a ^ (ee % 2 ^ n / 2 ^ (k + 1))))) 2), wd (lb (mf ((a ^ (ee % 2 ^ n / 2 ^ (k + 1))) * (a ^ (ee % 2 ^ n / 2 ^ (k + 1))))) 3)], 34⟩, ⟨b5, [wd (lb (mf a) 0), wd (lb (mf a) 1), wd (lb (mf a) 2), wd (lb (mf a) 3)], 34⟩, ⟨b3, [.int .u64 0, .int .u64 0, .int .u64 0, .int .u64 0], 34⟩, ⟨b2, [wd (lb ee 0), wd (lb ee 1), wd (lb ee 2), wd (lb ee 3)], 34⟩, ⟨b1, [wd (lb a 0), wd (lb a 1), wd (lb a 2), wd (lb a 3)], 34⟩]) [wd (lb (mf ((a ^ (ee % 2 ^ n / 2 ^ (k + 1))) * (a ^ (ee % 2 ^ n / 2 ^ (k + 1))))) 0), wd (lb (mf ((a ^ (ee % 2 ^ n / 2 ^ (k + 1))) * (a ^ (ee % 2 ^ n / 2 ^ (k + 1))))) 1), wd (lb (mf ((a ^ (ee % 2 ^ n / 2 ^ (k + 1))) * (a ^ (ee % 2 ^ n / 2 ^ (k + 1))))) 2), wd (lb (mf ((a ^ (ee % 2 ^ n / 2 ^ (k + 1))) * (a ^ (ee % 2 ^ n / 2 ^ (k + 1))))) 3)] 0 b6 0 [wd (lb (mf (a ^ (ee % 2 ^ n / 2 ^ (k + 1)))) 0), wd (lb (mf (a ^ (ee % 2 ^ n / 2 ^ (k + 1)))) 1), wd (lb (mf (a ^ (ee % 2 ^ n / 2 ^ (k + 1)))) 2), wd (lb (mf (a ^ (ee % 2 ^ n / 2 ^ (k + 1)))) 3)] 34 rfl (by kernel_rfl) (by kernel_rfl) Tryd.sizeOf34 (by simp [Value.oneCell']) (by kernel_rfl) (by simp) (by kernel_rfl)) ?_
      refine S_nil ?_
      refine E_then ?_
      refine C_seq ?_
      refine C_region ?_
      refine S_val (.int .i64 ((k : Nat) : Int)) (by kernel_rfl) (fun _ _ => fv (v := .int .i64 (((k + 1 : Nat) : Int) - 1)) (vint (by omega)) (by kernel_rfl)) ?_
      refine S_val (.int .i64 ((k / 64 : Nat) : Int)) (by kernel_rfl) (fun _ _ => fv (v := .int .i64 (IntKind.i64.wrap (((k : Nat) : Int).tdiv 64))) (vint (by rw [Int.tdiv_eq_ediv_of_nonneg (by omega)]; exact w64 (by omega) (by omega) (by omega))) (by kernel_rfl)) ?_
      refine S_val (.pointer (some ⟨b2, 0 + (k / 64) * 1, none⟩)) (by kernel_rfl) (fun w _ => (ixA (k := .i64) b2 0 4 1 (k / 64) rfl (by kernel_rfl) (by kernel_rfl) Tryd.underlying34 Tryd.sizeOf29 (by omega)) w) ?_
      refine S_val (wd (lb ee (k / 64))) (by kernel_rfl) (ld1 3 b2 (0 + k / 64 * 1) [wd (lb ee 0), wd (lb ee 1), wd (lb ee 2), wd (lb ee 3)] 34 rfl (by kernel_rfl) Tryd.isAgg29 (by kernel_rfl) (by rw [show 0 + k / 64 * 1 = k / 64 by omega]; exact words_at ee _ (by omega))) ?_
      refine S_val (.int .i64 ((k : Nat) : Int)) (by kernel_rfl) (fun _ _ => fv (v := .int .i64 (((k + 1 : Nat) : Int) - 1)) (vint (by omega)) (by kernel_rfl)) ?_
      refine S_val (.int .i64 ((k % 64 : Nat) : Int)) (by kernel_rfl) (fun _ _ => fv (v := .int .i64 (((k : Nat) : Int).tmod 64)) (vint (by rw [Int.tmod_eq_emod_of_nonneg (by omega)]; omega)) (by kernel_rfl)) ?_
      refine S_val (wd (lb ee (k / 64) / 2 ^ (k % 64))) (by kernel_rfl) (fun w _ => shrV (k := .i64) (lb ee (k / 64)) (k % 64) rfl (by kernel_rfl) (by kernel_rfl) (by omega) w) ?_
      obtain ⟨x9, hx9, lx9, mx9⟩ : ∃ q, q = (lb ee (k / 64) / 2 ^ (k % 64)) % 2 ^ 1 ∧ q < 18446744073709551616 ∧ q < 2 ^ 1 := ⟨_, rfl, by omega, Nat.mod_lt _ (by decide)⟩
      refine S_val (wd x9) (by kernel_rfl) (fun _ _ => fv (v := .int .u64 (IntKind.u64.wrap (((BitVec.ofInt IntKind.u64.bits ((lb ee (k / 64) / 2 ^ (k % 64) : Nat) : Int)) &&& (BitVec.ofInt IntKind.u64.bits 1)).toNat : Int))) ((vint (hx9 ▸ u_and_mask (lb ee (k / 64) / 2 ^ (k % 64)) 1 (Nat.lt_of_le_of_lt (Nat.div_le_self _ _) (lb_lt _ _)) (by decide)))) (by kernel_rfl)) ?_
      refine S_v (.bool (((x9 : Nat) : Int) == 1)) ?_
      refine S_nil ?_
      refine E_then ?_
      refine C_if (((x9 : Nat) : Int) == 1) (by kernel_rfl) (fun hb => ?_) (fun hb => ?_)
      · replace hb := eq_of_beq hb
        replace hb : x9 = 1 := by omega
        have hbit := (bit_law ee n k hk).1 (by rw [← hx9]; exact hb)
        refine C_seq ?_
        refine C_region ?_
        refine S_val (sc4 (mf ((a ^ (ee % 2 ^ n / 2 ^ (k + 1))) * (a ^ (ee % 2 ^ n / 2 ^ (k + 1)))))) (by kernel_rfl) (ldN [wd (lb (mf ((a ^ (ee % 2 ^ n / 2 ^ (k + 1))) * (a ^ (ee % 2 ^ n / 2 ^ (k + 1))))) 0), wd (lb (mf ((a ^ (ee % 2 ^ n / 2 ^ (k + 1))) * (a ^ (ee % 2 ^ n / 2 ^ (k + 1))))) 1), wd (lb (mf ((a ^ (ee % 2 ^ n / 2 ^ (k + 1))) * (a ^ (ee % 2 ^ n / 2 ^ (k + 1))))) 2), wd (lb (mf ((a ^ (ee % 2 ^ n / 2 ^ (k + 1))) * (a ^ (ee % 2 ^ n / 2 ^ (k + 1))))) 3)] 0 b6 0 [wd (lb (mf ((a ^ (ee % 2 ^ n / 2 ^ (k + 1))) * (a ^ (ee % 2 ^ n / 2 ^ (k + 1))))) 0), wd (lb (mf ((a ^ (ee % 2 ^ n / 2 ^ (k + 1))) * (a ^ (ee % 2 ^ n / 2 ^ (k + 1))))) 1), wd (lb (mf ((a ^ (ee % 2 ^ n / 2 ^ (k + 1))) * (a ^ (ee % 2 ^ n / 2 ^ (k + 1))))) 2), wd (lb (mf ((a ^ (ee % 2 ^ n / 2 ^ (k + 1))) * (a ^ (ee % 2 ^ n / 2 ^ (k + 1))))) 3)] 34 rfl (by kernel_rfl) Tryd.isAgg34 Tryd.sizeOf34 (by kernel_rfl) (by kernel_rfl)) ?_
        refine S_val (sc4 (mf a)) (by kernel_rfl) (ldN [wd (lb (mf a) 0), wd (lb (mf a) 1), wd (lb (mf a) 2), wd (lb (mf a) 3)] 1 b5 0 [wd (lb (mf a) 0), wd (lb (mf a) 1), wd (lb (mf a) 2), wd (lb (mf a) 3)] 34 rfl (by kernel_rfl) Tryd.isAgg34 Tryd.sizeOf34 (by kernel_rfl) (by kernel_rfl)) ?_
        have hC10 := fun (w : World) (hG : GV 0 tbS w) => c_product w hG (mf ((a ^ (ee % 2 ^ n / 2 ^ (k + 1))) * (a ^ (ee % 2 ^ n / 2 ^ (k + 1))))) (mf a) (mf_lt _) (mf_lt _)
        rw [mf_mul] at hC10
        refine S_call (by kernel_rfl) (fun _ _ => by kernel_rfl) (fun w hO => ((hC10 w (hT.own hO))).mono fun _ _ ⟨he, hb⟩ => ⟨sc4 (mf (((a ^ (ee % 2 ^ n / 2 ^ (k + 1))) * (a ^ (ee % 2 ^ n / 2 ^ (k + 1)))) * a)), _, he, hO.call hb, ?_⟩)
        refine S_do (by kernel_rfl) (stN (L' := [⟨b6, [wd (lb (mf (((a ^ (ee % 2 ^ n / 2 ^ (k + 1))) * (a ^ (ee % 2 ^ n / 2 ^ (k + 1)))) * a)) 0), wd (lb (mf (((a ^ (ee % 2 ^ n / 2 ^ (k + 1))) * (a ^ (ee % 2 ^ n / 2 ^ (k + 1)))) * a)) 1), wd (lb (mf (((a ^ (ee % 2 ^ n / 2 ^ (k + 1))) * (a ^ (ee % 2 ^ n / 2 ^ (k + 1)))) * a)) 2), wd (lb (mf (((a ^ (ee % 2 ^ n / 2 ^ (k + 1))) * (a ^ (ee % 2 ^ n / 2 ^ (k + 1)))) * a)) 3)], 34⟩, ⟨b5, [wd (lb (mf a) 0), wd (lb (mf a) 1), wd (lb (mf a) 2), wd (lb (mf a) 3)], 34⟩, ⟨b3, [.int .u64 0, .int .u64 0, .int .u64 0, .int .u64 0], 34⟩, ⟨b2, [wd (lb ee 0), wd (lb ee 1), wd (lb ee 2), wd (lb ee 3)], 34⟩, ⟨b1, [wd (lb a 0), wd (lb a 1), wd (lb a 2), wd (lb a 3)], 34⟩]) [wd (lb (mf (((a ^ (ee % 2 ^ n / 2 ^ (k + 1))) * (a ^ (ee % 2 ^ n / 2 ^ (k + 1)))) * a)) 0), wd (lb (mf (((a ^ (ee % 2 ^ n / 2 ^ (k + 1))) * (a ^ (ee % 2 ^ n / 2 ^ (k + 1)))) * a)) 1), wd (lb (mf (((a ^ (ee % 2 ^ n / 2 ^ (k + 1))) * (a ^ (ee % 2 ^ n / 2 ^ (k + 1)))) * a)) 2), wd (lb (mf (((a ^ (ee % 2 ^ n / 2 ^ (k + 1))) * (a ^ (ee % 2 ^ n / 2 ^ (k + 1)))) * a)) 3)] 0 b6 0 [wd (lb (mf ((a ^ (ee % 2 ^ n / 2 ^ (k + 1))) * (a ^ (ee % 2 ^ n / 2 ^ (k + 1))))) 0), wd (lb (mf ((a ^ (ee % 2 ^ n / 2 ^ (k + 1))) * (a ^ (ee % 2 ^ n / 2 ^ (k + 1))))) 1), wd (lb (mf ((a ^ (ee % 2 ^ n / 2 ^ (k + 1))) * (a ^ (ee % 2 ^ n / 2 ^ (k + 1))))) 2), wd (lb (mf ((a ^ (ee % 2 ^ n / 2 ^ (k + 1))) * (a ^ (ee % 2 ^ n / 2 ^ (k + 1))))) 3)] 34 rfl (by kernel_rfl) (by kernel_rfl) Tryd.sizeOf34 (by simp [Value.oneCell']) (by kernel_rfl) (by simp) (by kernel_rfl)) ?_
        refine S_nil ?_
        refine E_then ?_
        refine C_region ?_
        refine S_val (.bool (decide (ee % 2 ^ n / 2 ^ k ≠ 0))) (by kernel_rfl) (fun _ _ => fv (v := .bool true) (vbool (decide_eq_true (by have := pref_step (ee % 2 ^ n) k; omega)).symm) (by kernel_rfl)) ?_
        refine S_nil ?_
        refine E_inblock ?_
        refine E_then ?_
        refine C_region ?_
        refine S_val (.int .i64 ((k : Nat) : Int)) (by kernel_rfl) (fun _ _ => fv (v := .int .i64 (((k + 1 : Nat) : Int) - 1)) (vint (by omega)) (by kernel_rfl)) ?_
        refine S_val (.int .i64 (((k : Nat) : Int) - 1)) (by kernel_rfl) (fun _ _ => fv (v := .int .i64 (IntKind.i64.wrap (((k : Nat) : Int) - 1))) (vint (w64 rfl (by omega) (by omega))) (by kernel_rfl)) ?_
        refine S_v (.int .i64 (((k : Nat) : Int) - 1)) ?_
        refine S_nil ?_
        exact E_norm (fun w hw => ⟨k, by omega, (by kernel_rfl), (by (try dsimp only); omega), Own.eq hw (by (try dsimp only); rw [← pow_bit1 hbit])⟩)
      · replace hb := ne_of_beq_false hb
        replace hb : ¬ (x9 = 1) := by omega
        have hbit : ¬ (ee % 2 ^ n / 2 ^ k % 2 = 1) := fun hh => hb (by rw [hx9]; exact (bit_law ee n k hk).2 hh)
        refine C_skip ?_
        refine E_inblock ?_
        refine E_then ?_
        refine C_region ?_
        refine S_val (.int .i64 ((k : Nat) : Int)) (by kernel_rfl) (fun _ _ => fv (v := .int .i64 (((k + 1 : Nat) : Int) - 1)) (vint (by omega)) (by kernel_rfl)) ?_
        refine S_val (.int .i64 (((k : Nat) : Int) - 1)) (by kernel_rfl) (fun _ _ => fv (v := .int .i64 (IntKind.i64.wrap (((k : Nat) : Int) - 1))) (vint (w64 rfl (by omega) (by omega))) (by kernel_rfl)) ?_
        refine S_v (.int .i64 (((k : Nat) : Int) - 1)) ?_
        refine S_nil ?_
        have hfl : decide (ee % 2 ^ n / 2 ^ k ≠ 0) = decide (ee % 2 ^ n / 2 ^ (k + 1) ≠ 0) := decide_eq_decide.2 (by have := pref_step (ee % 2 ^ n) k; omega)
        refine E_forget (fun g => ⟨#[g 0, g 1, g 2, g 3, pt b2 0, g 5, pt b3 0, pt b5 0, pt b6 0, .bool (decide (ee % 2 ^ n / 2 ^ k ≠ 0)), .int .i64 (((k : Nat) : Int) - 1), g 11, g 12, g 13, g 14, g 15, g 16, g 17, g 18, g 19, g 20, g 21, .int .i64 ((k : Nat) : Int), .int .i64 (((k : Nat) : Int) - 1), .bool (decide (ee % 2 ^ n / 2 ^ (k + 1) ≠ 0)), sc4 (mf (a ^ (ee % 2 ^ n / 2 ^ (k + 1)))), sc4 (mf (a ^ (ee % 2 ^ n / 2 ^ (k + 1)))), sc4 (mf ((a ^ (ee % 2 ^ n / 2 ^ (k + 1))) * (a ^ (ee % 2 ^ n / 2 ^ (k + 1))))), .int .i64 ((k : Nat) : Int), .int .i64 ((k / 64 : Nat) : Int), .pointer (some ⟨b2, 0 + (k / 64) * 1, none⟩), wd (lb ee (k / 64)), .int .i64 ((k : Nat) : Int), .int .i64 ((k % 64 : Nat) : Int), wd (lb ee (k / 64) / 2 ^ (k % 64)), wd x9, .bool (((x9 : Nat) : Int) == 1), g 37, g 38, g 39, g 40, g 41, g 42], []⟩) (by rw [hfl]; kernel_rfl) ?_
        intro g
        exact E_norm (fun w hw => ⟨k, by omega, (by kernel_rfl), (by (try dsimp only); omega), Own.eq hw (by (try dsimp only); rw [← pow_bit0 hbit])⟩)
    · replace hs : ee % 2 ^ n / 2 ^ (k + 1) = 0 := by simpa using hs
      have hq := pow_skip (a := a) hs
      refine C_weak (L' := [⟨b6, [wd (lb (mf (a ^ (ee % 2 ^ n / 2 ^ (k + 1)) * a ^ (ee % 2 ^ n / 2 ^ (k + 1)))) 0), wd (lb (mf (a ^ (ee % 2 ^ n / 2 ^ (k + 1)) * a ^ (ee % 2 ^ n / 2 ^ (k + 1)))) 1), wd (lb (mf (a ^ (ee % 2 ^ n / 2 ^ (k + 1)) * a ^ (ee % 2 ^ n / 2 ^ (k + 1)))) 2), wd (lb (mf (a ^ (ee % 2 ^ n / 2 ^ (k + 1)) * a ^ (ee % 2 ^ n / 2 ^ (k + 1)))) 3)], 34⟩, ⟨b5, [wd (lb (mf a) 0), wd (lb (mf a) 1), wd (lb (mf a) 2), wd (lb (mf a) 3)], 34⟩, ⟨b3, [.int .u64 0, .int .u64 0, .int .u64 0, .int .u64 0], 34⟩, ⟨b2, [wd (lb ee 0), wd (lb ee 1), wd (lb ee 2), wd (lb ee 3)], 34⟩, ⟨b1, [wd (lb a 0), wd (lb a 1), wd (lb a 2), wd (lb a 3)], 34⟩]) (fun w hw => by rw [← hq]; exact hw) ?_
      refine C_skip ?_
      refine E_then ?_
      refine C_seq ?_
      refine C_region ?_
      refine S_val (.int .i64 ((k : Nat) : Int)) (by kernel_rfl) (fun _ _ => fv (v := .int .i64 (((k + 1 : Nat) : Int) - 1)) (vint (by omega)) (by kernel_rfl)) ?_
      refine S_val (.int .i64 ((k / 64 : Nat) : Int)) (by kernel_rfl) (fun _ _ => fv (v := .int .i64 (IntKind.i64.wrap (((k : Nat) : Int).tdiv 64))) (vint (by rw [Int.tdiv_eq_ediv_of_nonneg (by omega)]; exact w64 (by omega) (by omega) (by omega))) (by kernel_rfl)) ?_
      refine S_val (.pointer (some ⟨b2, 0 + (k / 64) * 1, none⟩)) (by kernel_rfl) (fun w _ => (ixA (k := .i64) b2 0 4 1 (k / 64) rfl (by kernel_rfl) (by kernel_rfl) Tryd.underlying34 Tryd.sizeOf29 (by omega)) w) ?_
      refine S_val (wd (lb ee (k / 64))) (by kernel_rfl) (ld1 3 b2 (0 + k / 64 * 1) [wd (lb ee 0), wd (lb ee 1), wd (lb ee 2), wd (lb ee 3)] 34 rfl (by kernel_rfl) Tryd.isAgg29 (by kernel_rfl) (by rw [show 0 + k / 64 * 1 = k / 64 by omega]; exact words_at ee _ (by omega))) ?_
      refine S_val (.int .i64 ((k : Nat) : Int)) (by kernel_rfl) (fun _ _ => fv (v := .int .i64 (((k + 1 : Nat) : Int) - 1)) (vint (by omega)) (by kernel_rfl)) ?_
      refine S_val (.int .i64 ((k % 64 : Nat) : Int)) (by kernel_rfl) (fun _ _ => fv (v := .int .i64 (((k : Nat) : Int).tmod 64)) (vint (by rw [Int.tmod_eq_emod_of_nonneg (by omega)]; omega)) (by kernel_rfl)) ?_
      refine S_val (wd (lb ee (k / 64) / 2 ^ (k % 64))) (by kernel_rfl) (fun w _ => shrV (k := .i64) (lb ee (k / 64)) (k % 64) rfl (by kernel_rfl) (by kernel_rfl) (by omega) w) ?_
      obtain ⟨x11, hx11, lx11, mx11⟩ : ∃ q, q = (lb ee (k / 64) / 2 ^ (k % 64)) % 2 ^ 1 ∧ q < 18446744073709551616 ∧ q < 2 ^ 1 := ⟨_, rfl, by omega, Nat.mod_lt _ (by decide)⟩
      refine S_val (wd x11) (by kernel_rfl) (fun _ _ => fv (v := .int .u64 (IntKind.u64.wrap (((BitVec.ofInt IntKind.u64.bits ((lb ee (k / 64) / 2 ^ (k % 64) : Nat) : Int)) &&& (BitVec.ofInt IntKind.u64.bits 1)).toNat : Int))) ((vint (hx11 ▸ u_and_mask (lb ee (k / 64) / 2 ^ (k % 64)) 1 (Nat.lt_of_le_of_lt (Nat.div_le_self _ _) (lb_lt _ _)) (by decide)))) (by kernel_rfl)) ?_
      refine S_v (.bool (((x11 : Nat) : Int) == 1)) ?_
      refine S_nil ?_
      refine E_then ?_
      refine C_if (((x11 : Nat) : Int) == 1) (by kernel_rfl) (fun hb => ?_) (fun hb => ?_)
      · replace hb := eq_of_beq hb
        replace hb : x11 = 1 := by omega
        have hbit := (bit_law ee n k hk).1 (by rw [← hx11]; exact hb)
        refine C_seq ?_
        refine C_region ?_
        refine S_val (sc4 (mf (a ^ (ee % 2 ^ n / 2 ^ (k + 1)) * a ^ (ee % 2 ^ n / 2 ^ (k + 1))))) (by kernel_rfl) (ldN [wd (lb (mf (a ^ (ee % 2 ^ n / 2 ^ (k + 1)) * a ^ (ee % 2 ^ n / 2 ^ (k + 1)))) 0), wd (lb (mf (a ^ (ee % 2 ^ n / 2 ^ (k + 1)) * a ^ (ee % 2 ^ n / 2 ^ (k + 1)))) 1), wd (lb (mf (a ^ (ee % 2 ^ n / 2 ^ (k + 1)) * a ^ (ee % 2 ^ n / 2 ^ (k + 1)))) 2), wd (lb (mf (a ^ (ee % 2 ^ n / 2 ^ (k + 1)) * a ^ (ee % 2 ^ n / 2 ^ (k + 1)))) 3)] 0 b6 0 [wd (lb (mf (a ^ (ee % 2 ^ n / 2 ^ (k + 1)) * a ^ (ee % 2 ^ n / 2 ^ (k + 1)))) 0), wd (lb (mf (a ^ (ee % 2 ^ n / 2 ^ (k + 1)) * a ^ (ee % 2 ^ n / 2 ^ (k + 1)))) 1), wd (lb (mf (a ^ (ee % 2 ^ n / 2 ^ (k + 1)) * a ^ (ee % 2 ^ n / 2 ^ (k + 1)))) 2), wd (lb (mf (a ^ (ee % 2 ^ n / 2 ^ (k + 1)) * a ^ (ee % 2 ^ n / 2 ^ (k + 1)))) 3)] 34 rfl (by kernel_rfl) Tryd.isAgg34 Tryd.sizeOf34 (by kernel_rfl) (by kernel_rfl)) ?_
        refine S_val (sc4 (mf a)) (by kernel_rfl) (ldN [wd (lb (mf a) 0), wd (lb (mf a) 1), wd (lb (mf a) 2), wd (lb (mf a) 3)] 1 b5 0 [wd (lb (mf a) 0), wd (lb (mf a) 1), wd (lb (mf a) 2), wd (lb (mf a) 3)] 34 rfl (by kernel_rfl) Tryd.isAgg34 Tryd.sizeOf34 (by kernel_rfl) (by kernel_rfl)) ?_
        have hC12 := fun (w : World) (hG : GV 0 tbS w) => c_product w hG (mf (a ^ (ee % 2 ^ n / 2 ^ (k + 1)) * a ^ (ee % 2 ^ n / 2 ^ (k + 1)))) (mf a) (mf_lt _) (mf_lt _)
        rw [mf_mul] at hC12
        refine S_call (by kernel_rfl) (fun _ _ => by kernel_rfl) (fun w hO => ((hC12 w (hT.own hO))).mono fun _ _ ⟨he, hb⟩ => ⟨sc4 (mf ((a ^ (ee % 2 ^ n / 2 ^ (k + 1)) * a ^ (ee % 2 ^ n / 2 ^ (k + 1))) * a)), _, he, hO.call hb, ?_⟩)
        refine S_do (by kernel_rfl) (stN (L' := [⟨b6, [wd (lb (mf ((a ^ (ee % 2 ^ n / 2 ^ (k + 1)) * a ^ (ee % 2 ^ n / 2 ^ (k + 1))) * a)) 0), wd (lb (mf ((a ^ (ee % 2 ^ n / 2 ^ (k + 1)) * a ^ (ee % 2 ^ n / 2 ^ (k + 1))) * a)) 1), wd (lb (mf ((a ^ (ee % 2 ^ n / 2 ^ (k + 1)) * a ^ (ee % 2 ^ n / 2 ^ (k + 1))) * a)) 2), wd (lb (mf ((a ^ (ee % 2 ^ n / 2 ^ (k + 1)) * a ^ (ee % 2 ^ n / 2 ^ (k + 1))) * a)) 3)], 34⟩, ⟨b5, [wd (lb (mf a) 0), wd (lb (mf a) 1), wd (lb (mf a) 2), wd (lb (mf a) 3)], 34⟩, ⟨b3, [.int .u64 0, .int .u64 0, .int .u64 0, .int .u64 0], 34⟩, ⟨b2, [wd (lb ee 0), wd (lb ee 1), wd (lb ee 2), wd (lb ee 3)], 34⟩, ⟨b1, [wd (lb a 0), wd (lb a 1), wd (lb a 2), wd (lb a 3)], 34⟩]) [wd (lb (mf ((a ^ (ee % 2 ^ n / 2 ^ (k + 1)) * a ^ (ee % 2 ^ n / 2 ^ (k + 1))) * a)) 0), wd (lb (mf ((a ^ (ee % 2 ^ n / 2 ^ (k + 1)) * a ^ (ee % 2 ^ n / 2 ^ (k + 1))) * a)) 1), wd (lb (mf ((a ^ (ee % 2 ^ n / 2 ^ (k + 1)) * a ^ (ee % 2 ^ n / 2 ^ (k + 1))) * a)) 2), wd (lb (mf ((a ^ (ee % 2 ^ n / 2 ^ (k + 1)) * a ^ (ee % 2 ^ n / 2 ^ (k + 1))) * a)) 3)] 0 b6 0 [wd (lb (mf (a ^ (ee % 2 ^ n / 2 ^ (k + 1)) * a ^ (ee % 2 ^ n / 2 ^ (k + 1)))) 0), wd (lb (mf (a ^ (ee % 2 ^ n / 2 ^ (k + 1)) * a ^ (ee % 2 ^ n / 2 ^ (k + 1)))) 1), wd (lb (mf (a ^ (ee % 2 ^ n / 2 ^ (k + 1)) * a ^ (ee % 2 ^ n / 2 ^ (k + 1)))) 2), wd (lb (mf (a ^ (ee % 2 ^ n / 2 ^ (k + 1)) * a ^ (ee % 2 ^ n / 2 ^ (k + 1)))) 3)] 34 rfl (by kernel_rfl) (by kernel_rfl) Tryd.sizeOf34 (by simp [Value.oneCell']) (by kernel_rfl) (by simp) (by kernel_rfl)) ?_
        refine S_nil ?_
        refine E_then ?_
        refine C_region ?_
        refine S_val (.bool (decide (ee % 2 ^ n / 2 ^ k ≠ 0))) (by kernel_rfl) (fun _ _ => fv (v := .bool true) (vbool (decide_eq_true (by have := pref_step (ee % 2 ^ n) k; omega)).symm) (by kernel_rfl)) ?_
        refine S_nil ?_
        refine E_inblock ?_
        refine E_then ?_
        refine C_region ?_
        refine S_val (.int .i64 ((k : Nat) : Int)) (by kernel_rfl) (fun _ _ => fv (v := .int .i64 (((k + 1 : Nat) : Int) - 1)) (vint (by omega)) (by kernel_rfl)) ?_
        refine S_val (.int .i64 (((k : Nat) : Int) - 1)) (by kernel_rfl) (fun _ _ => fv (v := .int .i64 (IntKind.i64.wrap (((k : Nat) : Int) - 1))) (vint (w64 rfl (by omega) (by omega))) (by kernel_rfl)) ?_
        refine S_v (.int .i64 (((k : Nat) : Int) - 1)) ?_
        refine S_nil ?_
        exact E_norm (fun w hw => ⟨k, by omega, (by kernel_rfl), (by (try dsimp only); omega), Own.eq hw (by (try dsimp only); rw [← pow_bit1 hbit])⟩)
      · replace hb := ne_of_beq_false hb
        replace hb : ¬ (x11 = 1) := by omega
        have hbit : ¬ (ee % 2 ^ n / 2 ^ k % 2 = 1) := fun hh => hb (by rw [hx11]; exact (bit_law ee n k hk).2 hh)
        refine C_skip ?_
        refine E_inblock ?_
        refine E_then ?_
        refine C_region ?_
        refine S_val (.int .i64 ((k : Nat) : Int)) (by kernel_rfl) (fun _ _ => fv (v := .int .i64 (((k + 1 : Nat) : Int) - 1)) (vint (by omega)) (by kernel_rfl)) ?_
        refine S_val (.int .i64 (((k : Nat) : Int) - 1)) (by kernel_rfl) (fun _ _ => fv (v := .int .i64 (IntKind.i64.wrap (((k : Nat) : Int) - 1))) (vint (w64 rfl (by omega) (by omega))) (by kernel_rfl)) ?_
        refine S_v (.int .i64 (((k : Nat) : Int) - 1)) ?_
        refine S_nil ?_
        have hfl : decide (ee % 2 ^ n / 2 ^ k ≠ 0) = decide (ee % 2 ^ n / 2 ^ (k + 1) ≠ 0) := decide_eq_decide.2 (by have := pref_step (ee % 2 ^ n) k; omega)
        refine E_forget (fun g => ⟨#[g 0, g 1, g 2, g 3, pt b2 0, g 5, pt b3 0, pt b5 0, pt b6 0, .bool (decide (ee % 2 ^ n / 2 ^ k ≠ 0)), .int .i64 (((k : Nat) : Int) - 1), g 11, g 12, g 13, g 14, g 15, g 16, g 17, g 18, g 19, g 20, g 21, .int .i64 ((k : Nat) : Int), .int .i64 (((k : Nat) : Int) - 1), .bool (decide (ee % 2 ^ n / 2 ^ (k + 1) ≠ 0)), g 25, g 26, g 27, .int .i64 ((k : Nat) : Int), .int .i64 ((k / 64 : Nat) : Int), .pointer (some ⟨b2, 0 + (k / 64) * 1, none⟩), wd (lb ee (k / 64)), .int .i64 ((k : Nat) : Int), .int .i64 ((k % 64 : Nat) : Int), wd (lb ee (k / 64) / 2 ^ (k % 64)), wd x11, .bool (((x11 : Nat) : Int) == 1), g 37, g 38, g 39, g 40, g 41, g 42], []⟩) (by rw [hfl]; kernel_rfl) ?_
        intro g
        exact E_norm (fun w hw => ⟨k, by omega, (by kernel_rfl), (by (try dsimp only); omega), Own.eq hw (by (try dsimp only); rw [← pow_bit0 hbit])⟩)
  · replace hc := of_decide_eq_false hc
    obtain rfl : m = 0 := by omega
    refine C_exit ?_
    refine E_pass_exit ?_
    refine E_pass_exit ?_
    refine E_outblock ?_
    refine E_then ?_
    refine C_seq ?_
    refine C_region ?_
    refine S_val (sc4 (mf (a ^ (ee % 2 ^ n / 2 ^ 0)))) (by kernel_rfl) (ldN [wd (lb (mf (a ^ (ee % 2 ^ n / 2 ^ 0))) 0), wd (lb (mf (a ^ (ee % 2 ^ n / 2 ^ 0))) 1), wd (lb (mf (a ^ (ee % 2 ^ n / 2 ^ 0))) 2), wd (lb (mf (a ^ (ee % 2 ^ n / 2 ^ 0))) 3)] 0 b6 0 [wd (lb (mf (a ^ (ee % 2 ^ n / 2 ^ 0))) 0), wd (lb (mf (a ^ (ee % 2 ^ n / 2 ^ 0))) 1), wd (lb (mf (a ^ (ee % 2 ^ n / 2 ^ 0))) 2), wd (lb (mf (a ^ (ee % 2 ^ n / 2 ^ 0))) 3)] 34 rfl (by kernel_rfl) Tryd.isAgg34 Tryd.sizeOf34 (by kernel_rfl) (by kernel_rfl)) ?_
    refine S_v (.agg #[.int .u64 1, .int .u64 0, .int .u64 0, .int .u64 0]) ?_
    have hC13 := fun (w : World) (hG : GV 0 tbS w) => c_product w hG (mf (a ^ (ee % 2 ^ n / 2 ^ 0))) 1 (mf_lt _) (by decide)
    rw [mf_out] at hC13
    refine S_call (by kernel_rfl) (fun _ _ => by kernel_rfl) (fun w hO => ((hC13 w (hT.own hO))).mono fun _ _ ⟨he, hb⟩ => ⟨sc4 ((a ^ (ee % 2 ^ n / 2 ^ 0)) % ll), _, he, hO.call hb, ?_⟩)
    refine S_do (by kernel_rfl) (stN (L' := [⟨b6, [wd (lb (mf (a ^ (ee % 2 ^ n / 2 ^ 0))) 0), wd (lb (mf (a ^ (ee % 2 ^ n / 2 ^ 0))) 1), wd (lb (mf (a ^ (ee % 2 ^ n / 2 ^ 0))) 2), wd (lb (mf (a ^ (ee % 2 ^ n / 2 ^ 0))) 3)], 34⟩, ⟨b5, [wd (lb (mf a) 0), wd (lb (mf a) 1), wd (lb (mf a) 2), wd (lb (mf a) 3)], 34⟩, ⟨b3, [wd (lb ((a ^ (ee % 2 ^ n / 2 ^ 0)) % ll) 0), wd (lb ((a ^ (ee % 2 ^ n / 2 ^ 0)) % ll) 1), wd (lb ((a ^ (ee % 2 ^ n / 2 ^ 0)) % ll) 2), wd (lb ((a ^ (ee % 2 ^ n / 2 ^ 0)) % ll) 3)], 34⟩, ⟨b2, [wd (lb ee 0), wd (lb ee 1), wd (lb ee 2), wd (lb ee 3)], 34⟩, ⟨b1, [wd (lb a 0), wd (lb a 1), wd (lb a 2), wd (lb a 3)], 34⟩]) [wd (lb ((a ^ (ee % 2 ^ n / 2 ^ 0)) % ll) 0), wd (lb ((a ^ (ee % 2 ^ n / 2 ^ 0)) % ll) 1), wd (lb ((a ^ (ee % 2 ^ n / 2 ^ 0)) % ll) 2), wd (lb ((a ^ (ee % 2 ^ n / 2 ^ 0)) % ll) 3)] 2 b3 0 [.int .u64 0, .int .u64 0, .int .u64 0, .int .u64 0] 34 rfl (by kernel_rfl) (by kernel_rfl) Tryd.sizeOf34 (by simp [Value.oneCell']) (by kernel_rfl) (by simp) (by kernel_rfl)) ?_
    refine S_nil ?_
    refine E_then ?_
    refine C_ret ?_
    have q0 : a ^ (ee % 2 ^ n / 2 ^ 0) = a ^ (ee % 2 ^ n) := by rw [Nat.pow_zero, Nat.div_one]
    rw [← q0]
    exact pure_ret rfl (resC Tryd.results31 [wd (lb ((a ^ (ee % 2 ^ n / 2 ^ 0)) % ll) 0), wd (lb ((a ^ (ee % 2 ^ n / 2 ^ 0)) % ll) 1), wd (lb ((a ^ (ee % 2 ^ n / 2 ^ 0)) % ll) 2), wd (lb ((a ^ (ee % 2 ^ n / 2 ^ 0)) % ll) 3)] 2 b3 34 (by kernel_rfl) Tryd.isAgg34 Tryd.sizeOf34 (by kernel_rfl))
theorem c_sinvert (w0 : World) (hT : GV 0 tbS w0) (a : Nat) (ha : a < W256) : Calls Tryd.prog 11 #[sc4 a] w0 fun e w' => e = .returned (sc4 (a ^ (ll - 2) % ll)) ∧ Below w0.heap.size w0 w' := by
  refine calls_start Tryd.func11 rfl ?_
  refine C_seq ?_
  refine C_region ?_
  refine S_newv (fun nb0 => pt nb0 0) [wd (lb a 0), wd (lb a 1), wd (lb a 2), wd (lb a 3)] 34 (by kernel_rfl) (fun w _ => by kernel_rfl) ?_
  intro b1 hb1 Hb1
  refine S_newv (fun nb0 => pt nb0 0) [.int .u64 0, .int .u64 0, .int .u64 0, .int .u64 0] 34 (by kernel_rfl) (fun w _ => by kernel_rfl) ?_
  intro b2 hb2 Hb2
  refine S_nil ?_
  refine E_then ?_
  refine C_seq ?_
  refine C_region ?_
  refine S_val (sc4 a) (by kernel_rfl) (ldN [wd (lb a 0), wd (lb a 1), wd (lb a 2), wd (lb a 3)] 1 b1 0 [wd (lb a 0), wd (lb a 1), wd (lb a 2), wd (lb a 3)] 34 rfl (by kernel_rfl) Tryd.isAgg34 Tryd.sizeOf34 (by kernel_rfl) (by kernel_rfl)) ?_
  refine S_v (pt 0 12) ?_
  refine S_val (.agg #[.int .u64 6346243789798364139, .int .u64 1503914060200516822, .int .u64 0, .int .u64 1152921504606846976]) (by kernel_rfl) (ldNo [.int .u64 6346243789798364139, .int .u64 1503914060200516822, .int .u64 0, .int .u64 1152921504606846976] 0 12 rfl (by kernel_rfl) Tryd.isAgg34 Tryd.sizeOf34 (hT.sub 12 [.int .u64 6346243789798364139, .int .u64 1503914060200516822, .int .u64 0, .int .u64 1152921504606846976] (by kernel_rfl))) ?_
  have hC3 := fun (w : World) (hG : GV 0 tbS w) => c_power w hG a (ll - 2) 253 ha (by decide) (by decide)
  rw [(show (ll - 2) % 2 ^ 253 = ll - 2 by decide)] at hC3
  refine S_call (by kernel_rfl) (fun _ _ => by kernel_rfl) (fun w hO => ((hC3 w (hT.own hO))).mono fun _ _ ⟨he, hb⟩ => ⟨sc4 (a ^ (ll - 2) % ll), _, he, hO.call hb, ?_⟩)
  refine S_do (by kernel_rfl) (stN (L' := [⟨b2, [wd (lb (a ^ (ll - 2) % ll) 0), wd (lb (a ^ (ll - 2) % ll) 1), wd (lb (a ^ (ll - 2) % ll) 2), wd (lb (a ^ (ll - 2) % ll) 3)], 34⟩, ⟨b1, [wd (lb a 0), wd (lb a 1), wd (lb a 2), wd (lb a 3)], 34⟩]) [wd (lb (a ^ (ll - 2) % ll) 0), wd (lb (a ^ (ll - 2) % ll) 1), wd (lb (a ^ (ll - 2) % ll) 2), wd (lb (a ^ (ll - 2) % ll) 3)] 0 b2 0 [.int .u64 0, .int .u64 0, .int .u64 0, .int .u64 0] 34 rfl (by kernel_rfl) (by kernel_rfl) Tryd.sizeOf34 (by simp [Value.oneCell']) (by kernel_rfl) (by simp) (by kernel_rfl)) ?_
  refine S_nil ?_
  refine E_then ?_
  refine C_ret ?_
  exact pure_ret rfl (resC Tryd.results11 [wd (lb (a ^ (ll - 2) % ll) 0), wd (lb (a ^ (ll - 2) % ll) 1), wd (lb (a ^ (ll - 2) % ll) 2), wd (lb (a ^ (ll - 2) % ll) 3)] 0 b2 34 (by kernel_rfl) Tryd.isAgg34 Tryd.sizeOf34 (by kernel_rfl))
theorem c_ssame (w0 : World) (hT : GV 0 tbS w0) (a b : Nat) (ha : a < W256) (hb : b < W256) : Calls Tryd.prog 10 #[sc4 a, sc4 b] w0 fun e w' => e = .returned (.bool (decide (a % ll = b % ll))) ∧ Below w0.heap.size w0 w' := by
  refine calls_start Tryd.func10 rfl ?_
  refine C_seq ?_
  refine C_region ?_
  refine S_newv (fun nb0 => pt nb0 0) [wd (lb a 0), wd (lb a 1), wd (lb a 2), wd (lb a 3)] 34 (by kernel_rfl) (fun w _ => by kernel_rfl) ?_
  intro b1 hb1 Hb1
  refine S_newv (fun nb0 => pt nb0 0) [wd (lb b 0), wd (lb b 1), wd (lb b 2), wd (lb b 3)] 34 (by kernel_rfl) (fun w _ => by kernel_rfl) ?_
  intro b2 hb2 Hb2
  refine S_v (.bool false) ?_
  refine S_nil ?_
  refine E_then ?_
  refine C_seq ?_
  refine C_drawn [.held, .held, .held, .held, .pure, .pure] (by kernel_rfl) (by kernel_rfl) ?_
  refine D_held (sc4 a) (by kernel_rfl) (ldN [wd (lb a 0), wd (lb a 1), wd (lb a 2), wd (lb a 3)] 1 b1 0 [wd (lb a 0), wd (lb a 1), wd (lb a 2), wd (lb a 3)] 34 rfl (by kernel_rfl) Tryd.isAgg34 Tryd.sizeOf34 (by kernel_rfl) (by kernel_rfl)) ?_
  refine D_call (sc4 (a % ll)) (by kernel_rfl) (fun _ _ => by kernel_rfl) (fun w hO => (c_least w (hT.own hO) a ha)) ?_
  refine D_held (sc4 b) (by kernel_rfl) (ldN [wd (lb b 0), wd (lb b 1), wd (lb b 2), wd (lb b 3)] 0 b2 0 [wd (lb b 0), wd (lb b 1), wd (lb b 2), wd (lb b 3)] 34 rfl (by kernel_rfl) Tryd.isAgg34 Tryd.sizeOf34 (by kernel_rfl) (by kernel_rfl)) ?_
  refine D_call (sc4 (b % ll)) (by kernel_rfl) (fun _ _ => by kernel_rfl) (fun w hO => (c_least w (hT.own hO) b hb)) ?_
  refine D_val (.bool (decide ((a % ll) = (b % ll)))) (by kernel_rfl) (fun w => fv (v := .bool (([((lb (a % ll) 0 : Nat) : Int), ((lb (a % ll) 1 : Nat) : Int), ((lb (a % ll) 2 : Nat) : Int), ((lb (a % ll) 3 : Nat) : Int)] : List Int) == [((lb (b % ll) 0 : Nat) : Int), ((lb (b % ll) 1 : Nat) : Int), ((lb (b % ll) 2 : Nat) : Int), ((lb (b % ll) 3 : Nat) : Int)])) (vbool (sc_eq (a % ll) (b % ll) (Nat.lt_trans (Nat.mod_lt _ (by decide)) (by decide)) (Nat.lt_trans (Nat.mod_lt _ (by decide)) (by decide)))) ((eqlA (n := 4) (e := 29) (k := .u64) [((lb (a % ll) 0 : Nat) : Int), ((lb (a % ll) 1 : Nat) : Int), ((lb (a % ll) 2 : Nat) : Int), ((lb (a % ll) 3 : Nat) : Int)] [((lb (b % ll) 0 : Nat) : Int), ((lb (b % ll) 1 : Nat) : Int), ((lb (b % ll) 2 : Nat) : Int), ((lb (b % ll) 3 : Nat) : Int)] rfl (by kernel_rfl) (by kernel_rfl) (by kernel_rfl) Tryd.underlying34 Tryd.underlying29 Tryd.sizeOf29 rfl rfl) w)) ?_
  refine D_v (.bool (decide ((a % ll) = (b % ll)))) ?_
  refine D_nil ?_
  refine E_then ?_
  refine C_ret ?_
  exact pure_ret rfl (res1 Tryd.results10 (by kernel_rfl))
theorem c_szero (w0 : World) (hT : GV 0 tbS w0) (a : Nat) (ha : a < W256) : Calls Tryd.prog 12 #[sc4 a] w0 fun e w' => e = .returned (.bool (decide (a % ll = 0))) ∧ Below w0.heap.size w0 w' := by
  refine calls_start Tryd.func12 rfl ?_
  refine C_seq ?_
  refine C_region ?_
  refine S_newv (fun nb0 => pt nb0 0) [wd (lb a 0), wd (lb a 1), wd (lb a 2), wd (lb a 3)] 34 (by kernel_rfl) (fun w _ => by kernel_rfl) ?_
  intro b1 hb1 Hb1
  refine S_v (.bool false) ?_
  refine S_nil ?_
  refine E_then ?_
  refine C_seq ?_
  refine C_region ?_
  refine S_val (sc4 a) (by kernel_rfl) (ldN [wd (lb a 0), wd (lb a 1), wd (lb a 2), wd (lb a 3)] 0 b1 0 [wd (lb a 0), wd (lb a 1), wd (lb a 2), wd (lb a 3)] 34 rfl (by kernel_rfl) Tryd.isAgg34 Tryd.sizeOf34 (by kernel_rfl) (by kernel_rfl)) ?_
  refine S_call (by kernel_rfl) (fun _ _ => by kernel_rfl) (fun w hO => ((c_least w (hT.own hO) a ha)).mono fun _ _ ⟨he, hb⟩ => ⟨sc4 (a % ll), _, he, hO.call hb, ?_⟩)
  refine S_v (.agg #[.int .u64 0, .int .u64 0, .int .u64 0, .int .u64 0]) ?_
  refine S_val (.bool (decide ((a % ll) = 0))) (by kernel_rfl) (fun w _ => fv (v := .bool (([((lb (a % ll) 0 : Nat) : Int), ((lb (a % ll) 1 : Nat) : Int), ((lb (a % ll) 2 : Nat) : Int), ((lb (a % ll) 3 : Nat) : Int)] : List Int) == [0, 0, 0, 0])) (vbool (sc_eq0 (a % ll) (Nat.lt_trans (Nat.mod_lt _ (by decide)) (by decide)))) ((eqlA (n := 4) (e := 29) (k := .u64) [((lb (a % ll) 0 : Nat) : Int), ((lb (a % ll) 1 : Nat) : Int), ((lb (a % ll) 2 : Nat) : Int), ((lb (a % ll) 3 : Nat) : Int)] [0, 0, 0, 0] rfl (by kernel_rfl) (by kernel_rfl) (by kernel_rfl) Tryd.underlying34 Tryd.underlying29 Tryd.sizeOf29 rfl rfl) w)) ?_
  refine S_v (.bool (decide ((a % ll) = 0))) ?_
  refine S_nil ?_
  refine E_then ?_
  refine C_ret ?_
  exact pure_ret rfl (res1 Tryd.results12 (by kernel_rfl))
end Go.Vk
