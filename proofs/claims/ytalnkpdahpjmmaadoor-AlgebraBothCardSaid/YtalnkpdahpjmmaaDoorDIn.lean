/- What functions of the program do: walks, printed by a program of my own. -/
import Derived.Test.YtalnkpdahpjmmaaDoorDSd
import Derived.Test.YtalnkpdahpjmmaaDoorDFf
import Derived.Test.YtalnkpdahpjmmaaDoorInvQ
set_option linter.unusedVariables false
set_option linter.unusedSimpArgs false
namespace Go.Vk
open Go Go.RowKit Go.Proofs Go.Vk.Num
set_option linter.unusedVariables false
theorem c_sinvall (w0 : World) (hT : GV 0 tbS w0) (v : Value) (xs : List Nat) (hxs : ∀ j, xs.getD j 0 < W256) (hv : Rd w0 v 4 fs4 xs) (h0 : 0 < xs.length) (hl : xs.length ≤ 1000000) : Gives Tryd.prog 8 #[v] w0 34 4 xs.length ((sll xs xs.length).flatMap fs4) (fun v => v) := by
  obtain ⟨ao, cap, rfl, hx⟩ := hv.o
  unfold Gives
  refine calls_start Tryd.func8 rfl ?_
  refine C_seq ?_
  refine C_region ?_
  refine S_v (.slice none 0 0) ?_
  refine S_nil ?_
  refine E_then ?_
  refine C_seq ?_
  refine C_seq ?_
  refine C_region ?_
  refine S_v (.slice ao xs.length cap) ?_
  refine S_v (.int .i64 ((xs.length : Nat) : Int)) ?_
  refine S_val (.bool false) (by kernel_rfl) (fun _ _ => fv (v := .bool (((xs.length : Nat) : Int) == 0)) (vbool (beq_eq_false_iff_ne.2 (by omega))) (by kernel_rfl)) ?_
  refine S_nil ?_
  refine E_then ?_
  refine C_false (by kernel_rfl) ?_
  refine C_skip ?_
  refine E_then ?_
  refine C_seq ?_
  refine C_region ?_
  refine S_v (.slice ao xs.length cap) ?_
  refine S_v (.int .i64 ((xs.length : Nat) : Int)) ?_
  refine S_newv (fun nb0 => .slice (some ⟨nb0, 0, none⟩) xs.length xs.length) ((List.replicate xs.length 0).flatMap fs4) 34 (by kernel_rfl) (mk (kl := .i64) (kc := .i64) (z := .agg #[.int .u64 0, .int .u64 0, .int .u64 0, .int .u64 0]) (i := Tryd.t34) xs.length xs.length Tryd.underlying25 (by kernel_rfl) (by kernel_rfl) rfl (by kernel_rfl) (by kernel_rfl) (by omega) (by simp only [Tryd.t34]; omega) (by omega) ((List.replicate xs.length 0).flatMap fs4) (madeF (f := fs4) (d := 0) xs.length rfl)) ?_
  intro b1 hb1 Hb1
  refine S_v (.slice (some ⟨b1, 0, none⟩) xs.length xs.length) ?_
  refine S_nil ?_
  refine E_then ?_
  refine C_seq ?_
  refine C_region ?_
  obtain ⟨bi2, oi3, rfl, hi4⟩ := hx.op (by omega)
  refine S_v (.slice (some ⟨bi2, oi3, none⟩) xs.length cap) ?_
  refine S_val (.pointer (some ⟨bi2, oi3 + 0 * 4, none⟩)) (by kernel_rfl) (fun w _ => (ixS (k := .i64) bi2 oi3 xs.length cap 4 0 rfl (by kernel_rfl) (by kernel_rfl) Tryd.underlying25 Tryd.sizeOf34 (by omega)) w) ?_
  refine S_val (sc4 (xs.getD 0 0)) (by kernel_rfl) (ldR fs4_len 0 0 bi2 oi3 (oi3 + 0 * 4) hi4 rfl (by kernel_rfl) rfl (by omega) Tryd.isAgg34 Tryd.sizeOf34) ?_
  refine S_v (.iface 34 (sc4 (xs.getD 0 0))) ?_
  refine S_pure (v := .agg #[.int .u64 1, .int .u64 0, .int .u64 0, .int .u64 0]) (by kernel_rfl) (c_sone (xs.getD 0 0)) (fun _ => by kernel_rfl) ?_
  refine S_newv (fun nb0 => pt nb0 0) [.int .u64 0, .int .u64 0, .int .u64 0, .int .u64 0] 34 (by kernel_rfl) (fun w _ => by kernel_rfl) ?_
  intro b5 hb5 Hb5
  refine S_do (by kernel_rfl) (stN (L' := [⟨b5, [.int .u64 1, .int .u64 0, .int .u64 0, .int .u64 0], 34⟩, ⟨b1, ((List.replicate xs.length 0).flatMap fs4), 34⟩]) [.int .u64 1, .int .u64 0, .int .u64 0, .int .u64 0] 0 b5 0 [.int .u64 0, .int .u64 0, .int .u64 0, .int .u64 0] 34 rfl (by kernel_rfl) (by kernel_rfl) Tryd.sizeOf34 (by simp [Value.oneCell']) (by kernel_rfl) (by simp) (by kernel_rfl)) ?_
  refine S_nil ?_
  refine E_then ?_
  refine C_seq ?_
  refine C_seq ?_
  refine C_region ?_
  refine S_v (.slice (some ⟨bi2, oi3, none⟩) xs.length cap) ?_
  refine S_v (.int .i64 ((xs.length : Nat) : Int)) ?_
  refine S_v (.int .i64 0) ?_
  refine S_nil ?_
  refine E_then ?_
  refine C_block ?_
  refine C_loop1 (fun (k : Nat) => (k ≤ xs.length)) (fun (k : Nat) => fun g => ⟨#[.slice (some ⟨bi2, oi3, none⟩) xs.length cap, g 1, g 2, .slice (some ⟨b1, 0, none⟩) xs.length xs.length, pt b5 0, g 5, g 6, g 7, g 8, g 9, g 10, g 11, g 12, g 13, g 14, g 15, g 16, g 17, g 18, g 19, g 20, .slice (some ⟨bi2, oi3, none⟩) xs.length cap, .int .i64 ((xs.length : Nat) : Int), .int .i64 ((k : Nat) : Int), g 24, g 25, g 26, g 27, g 28, g 29, g 30, g 31, g 32, g 33, g 34, g 35, g 36, g 37, g 38, g 39, g 40, g 41, g 42, g 43, g 44, g 45, g 46, g 47, g 48, g 49, g 50, g 51, g 52, g 53, g 54, g 55, g 56, g 57, g 58, g 59, g 60, g 61, g 62, g 63, g 64, g 65, g 66, g 67, g 68, g 69, g 70, g 71, g 72, g 73, g 74, g 75, g 76, g 77, g 78], []⟩) (fun (k : Nat) => [⟨b5, [wd (lb (spr xs k) 0), wd (lb (spr xs k) 1), wd (lb (spr xs k) 2), wd (lb (spr xs k) 3)], 34⟩, ⟨b1, ((spl xs k).flatMap fs4), 34⟩]) (fun (k : Nat) => xs.length - k) 0 (by (try dsimp only); exact Nat.zero_le _) (by kernel_rfl) (by first | (dsimp only; done) | ((try dsimp only); kernel_rfl)) ?_
  rintro k g6 hk
  refine C_seq ?_
  refine C_region ?_
  refine S_v (.bool (decide (((k : Nat) : Int) < ((xs.length : Nat) : Int)))) ?_
  refine S_nil ?_
  refine E_then ?_
  refine C_seq ?_
  refine C_if (decide (((k : Nat) : Int) < ((xs.length : Nat) : Int))) (by kernel_rfl) (fun hc => ?_) (fun hc => ?_)
  · replace hc := of_decide_eq_true hc
    refine C_skip ?_
    refine E_then ?_
    refine C_seq ?_
    refine C_block ?_
    refine C_seq ?_
    refine C_region ?_
    refine S_v (.int .i64 ((k : Nat) : Int)) ?_
    refine S_val (.pointer (some ⟨bi2, oi3 + k * 4, none⟩)) (by kernel_rfl) (fun w _ => (ixS (k := .i64) bi2 oi3 xs.length cap 4 k rfl (by kernel_rfl) (by kernel_rfl) Tryd.underlying25 Tryd.sizeOf34 (by omega)) w) ?_
    refine S_val (sc4 (xs.getD k 0)) (by kernel_rfl) (ldR fs4_len 0 k bi2 oi3 (oi3 + k * 4) hi4 rfl (by kernel_rfl) rfl (by omega) Tryd.isAgg34 Tryd.sizeOf34) ?_
    refine S_newv (fun nb0 => pt nb0 0) [.int .u64 0, .int .u64 0, .int .u64 0, .int .u64 0] 34 (by kernel_rfl) (fun w _ => by kernel_rfl) ?_
    intro b7 hb7 Hb7
    refine S_v (.int .i64 ((k : Nat) : Int)) ?_
    refine S_do (by kernel_rfl) (stN (L' := [⟨b7, [wd (lb (xs.getD k 0) 0), wd (lb (xs.getD k 0) 1), wd (lb (xs.getD k 0) 2), wd (lb (xs.getD k 0) 3)], 34⟩, ⟨b5, [wd (lb (spr xs k) 0), wd (lb (spr xs k) 1), wd (lb (spr xs k) 2), wd (lb (spr xs k) 3)], 34⟩, ⟨b1, ((spl xs k).flatMap fs4), 34⟩]) [wd (lb (xs.getD k 0) 0), wd (lb (xs.getD k 0) 1), wd (lb (xs.getD k 0) 2), wd (lb (xs.getD k 0) 3)] 0 b7 0 [.int .u64 0, .int .u64 0, .int .u64 0, .int .u64 0] 34 rfl (by kernel_rfl) (by kernel_rfl) Tryd.sizeOf34 (by simp [Value.oneCell']) (by kernel_rfl) (by simp) (by kernel_rfl)) ?_
    refine S_nil ?_
    refine E_then ?_
    refine C_seq ?_
    refine C_region ?_
    refine S_v (.slice (some ⟨b1, 0, none⟩) xs.length xs.length) ?_
    refine S_v (.int .i64 ((k : Nat) : Int)) ?_
    refine S_val (sc4 (spr xs k)) (by kernel_rfl) (ldN [wd (lb (spr xs k) 0), wd (lb (spr xs k) 1), wd (lb (spr xs k) 2), wd (lb (spr xs k) 3)] 1 b5 0 [wd (lb (spr xs k) 0), wd (lb (spr xs k) 1), wd (lb (spr xs k) 2), wd (lb (spr xs k) 3)] 34 rfl (by kernel_rfl) Tryd.isAgg34 Tryd.sizeOf34 (by kernel_rfl) (by kernel_rfl)) ?_
    refine S_val (.pointer (some ⟨b1, 0 + k * 4, none⟩)) (by kernel_rfl) (fun w _ => (ixS (k := .i64) b1 0 xs.length xs.length 4 k rfl (by kernel_rfl) (by kernel_rfl) Tryd.underlying25 Tryd.sizeOf34 (by omega)) w) ?_
    refine S_do (by kernel_rfl) (stF (L' := [⟨b7, [wd (lb (xs.getD k 0) 0), wd (lb (xs.getD k 0) 1), wd (lb (xs.getD k 0) 2), wd (lb (xs.getD k 0) 3)], 34⟩, ⟨b5, [wd (lb (spr xs k) 0), wd (lb (spr xs k) 1), wd (lb (spr xs k) 2), wd (lb (spr xs k) 3)], 34⟩, ⟨b1, (((spl xs k).set k (spr xs k)).flatMap fs4), 34⟩]) fs4_len fs4_one (spl xs k) (spr xs k) k (0 + k * 4) 2 b1 34 rfl (by kernel_rfl) (by kernel_rfl) (by omega) (by rw [ipl_length]; omega) Tryd.sizeOf34 (by kernel_rfl) (by kernel_rfl)) ?_
    refine S_nil ?_
    refine E_then ?_
    refine C_seq ?_
    refine C_region ?_
    refine S_val (sc4 (xs.getD k 0)) (by kernel_rfl) (ldN [wd (lb (xs.getD k 0) 0), wd (lb (xs.getD k 0) 1), wd (lb (xs.getD k 0) 2), wd (lb (xs.getD k 0) 3)] 0 b7 0 [wd (lb (xs.getD k 0) 0), wd (lb (xs.getD k 0) 1), wd (lb (xs.getD k 0) 2), wd (lb (xs.getD k 0) 3)] 34 rfl (by kernel_rfl) Tryd.isAgg34 Tryd.sizeOf34 (by kernel_rfl) (by kernel_rfl)) ?_
    refine S_v (.iface 34 (sc4 (xs.getD k 0))) ?_
    refine S_call (by kernel_rfl) (fun _ _ => by kernel_rfl) (fun w hO => ((c_szero w (hT.own hO) (xs.getD k 0) (hxs _))).mono fun _ _ ⟨he, hb⟩ => ⟨.bool (szr (xs.getD k 0)), _, he, hO.call hb, ?_⟩)
    refine S_v (.bool (!(szr (xs.getD k 0)))) ?_
    refine S_nil ?_
    refine E_then ?_
    refine C_if (!(szr (xs.getD k 0))) (by kernel_rfl) (fun hz => ?_) (fun hz => ?_)
    · replace hz : ¬ szr (xs.getD k 0) = true := by intro h9; rw [h9] at hz; exact Bool.noConfusion hz
      refine C_region ?_
      refine S_val (sc4 (spr xs k)) (by kernel_rfl) (ldN [wd (lb (spr xs k) 0), wd (lb (spr xs k) 1), wd (lb (spr xs k) 2), wd (lb (spr xs k) 3)] 1 b5 0 [wd (lb (spr xs k) 0), wd (lb (spr xs k) 1), wd (lb (spr xs k) 2), wd (lb (spr xs k) 3)] 34 rfl (by kernel_rfl) Tryd.isAgg34 Tryd.sizeOf34 (by kernel_rfl) (by kernel_rfl)) ?_
      refine S_v (.iface 34 (sc4 (spr xs k))) ?_
      refine S_val (sc4 (xs.getD k 0)) (by kernel_rfl) (ldN [wd (lb (xs.getD k 0) 0), wd (lb (xs.getD k 0) 1), wd (lb (xs.getD k 0) 2), wd (lb (xs.getD k 0) 3)] 0 b7 0 [wd (lb (xs.getD k 0) 0), wd (lb (xs.getD k 0) 1), wd (lb (xs.getD k 0) 2), wd (lb (xs.getD k 0) 3)] 34 rfl (by kernel_rfl) Tryd.isAgg34 Tryd.sizeOf34 (by kernel_rfl) (by kernel_rfl)) ?_
      refine S_call (by kernel_rfl) (fun _ _ => by kernel_rfl) (fun w hO => ((c_smul w (hT.own hO) (spr xs k) (xs.getD k 0) (spr_lt _ _) (hxs _))).mono fun _ _ ⟨he, hb⟩ => ⟨sc4 ((spr xs k) * (xs.getD k 0) % ll), _, he, hO.call hb, ?_⟩)
      refine S_do (by kernel_rfl) (stN (L' := [⟨b7, [wd (lb (xs.getD k 0) 0), wd (lb (xs.getD k 0) 1), wd (lb (xs.getD k 0) 2), wd (lb (xs.getD k 0) 3)], 34⟩, ⟨b5, [wd (lb ((spr xs k) * (xs.getD k 0) % ll) 0), wd (lb ((spr xs k) * (xs.getD k 0) % ll) 1), wd (lb ((spr xs k) * (xs.getD k 0) % ll) 2), wd (lb ((spr xs k) * (xs.getD k 0) % ll) 3)], 34⟩, ⟨b1, (((spl xs k).set k (spr xs k)).flatMap fs4), 34⟩]) [wd (lb ((spr xs k) * (xs.getD k 0) % ll) 0), wd (lb ((spr xs k) * (xs.getD k 0) % ll) 1), wd (lb ((spr xs k) * (xs.getD k 0) % ll) 2), wd (lb ((spr xs k) * (xs.getD k 0) % ll) 3)] 1 b5 0 [wd (lb (spr xs k) 0), wd (lb (spr xs k) 1), wd (lb (spr xs k) 2), wd (lb (spr xs k) 3)] 34 rfl (by kernel_rfl) (by kernel_rfl) Tryd.sizeOf34 (by simp [Value.oneCell']) (by kernel_rfl) (by simp) (by kernel_rfl)) ?_
      refine S_nil ?_
      refine E_inblock ?_
      refine E_then ?_
      refine C_region ?_
      refine S_val (.int .i64 ((k + 1 : Nat) : Int)) (by kernel_rfl) (fun _ _ => fv (v := .int .i64 (IntKind.i64.wrap (((k : Nat) : Int) + 1))) (vint (w64 (by omega) (by omega) (by omega))) (by kernel_rfl)) ?_
      refine S_v (.int .i64 ((k + 1 : Nat) : Int)) ?_
      refine S_nil ?_
      exact E_norm (fun w hw => ⟨k + 1, by omega, (by kernel_rfl), (by (try dsimp only); omega), Own.eq hw.tail (by (try dsimp only); rw [spl_s, spr_n hz])⟩)
    · replace hz : szr (xs.getD k 0) = true := by revert hz; cases szr (xs.getD k 0) <;> intro h9 <;> first | rfl | exact Bool.noConfusion h9
      refine C_skip ?_
      refine E_inblock ?_
      refine E_then ?_
      refine C_region ?_
      refine S_val (.int .i64 ((k + 1 : Nat) : Int)) (by kernel_rfl) (fun _ _ => fv (v := .int .i64 (IntKind.i64.wrap (((k : Nat) : Int) + 1))) (vint (w64 (by omega) (by omega) (by omega))) (by kernel_rfl)) ?_
      refine S_v (.int .i64 ((k + 1 : Nat) : Int)) ?_
      refine S_nil ?_
      exact E_norm (fun w hw => ⟨k + 1, by omega, (by kernel_rfl), (by (try dsimp only); omega), Own.eq hw.tail (by (try dsimp only); rw [spl_s, spr_z hz])⟩)
  · replace hc := of_decide_eq_false hc
    obtain rfl : k = xs.length := by omega
    refine C_exit ?_
    refine E_pass_exit ?_
    refine E_pass_exit ?_
    refine E_outblock ?_
    refine E_then ?_
    refine C_seq ?_
    refine C_region ?_
    refine S_val (sc4 (spr xs xs.length)) (by kernel_rfl) (ldN [wd (lb (spr xs xs.length) 0), wd (lb (spr xs xs.length) 1), wd (lb (spr xs xs.length) 2), wd (lb (spr xs xs.length) 3)] 0 b5 0 [wd (lb (spr xs xs.length) 0), wd (lb (spr xs xs.length) 1), wd (lb (spr xs xs.length) 2), wd (lb (spr xs xs.length) 3)] 34 rfl (by kernel_rfl) Tryd.isAgg34 Tryd.sizeOf34 (by kernel_rfl) (by kernel_rfl)) ?_
    refine S_v (.iface 34 (sc4 (spr xs xs.length))) ?_
    refine S_call (by kernel_rfl) (fun _ _ => by kernel_rfl) (fun w hO => ((c_sinvert w (hT.own hO) (spr xs xs.length) (spr_lt _ _))).mono fun _ _ ⟨he, hb⟩ => ⟨sc4 ((spr xs xs.length) ^ (ll - 2) % ll), _, he, hO.call hb, ?_⟩)
    refine S_newv (fun nb0 => pt nb0 0) [.int .u64 0, .int .u64 0, .int .u64 0, .int .u64 0] 34 (by kernel_rfl) (fun w _ => by kernel_rfl) ?_
    intro b8 hb8 Hb8
    refine S_do (by kernel_rfl) (stN (L' := [⟨b8, [wd (lb ((spr xs xs.length) ^ (ll - 2) % ll) 0), wd (lb ((spr xs xs.length) ^ (ll - 2) % ll) 1), wd (lb ((spr xs xs.length) ^ (ll - 2) % ll) 2), wd (lb ((spr xs xs.length) ^ (ll - 2) % ll) 3)], 34⟩, ⟨b5, [wd (lb (spr xs xs.length) 0), wd (lb (spr xs xs.length) 1), wd (lb (spr xs xs.length) 2), wd (lb (spr xs xs.length) 3)], 34⟩, ⟨b1, ((spl xs xs.length).flatMap fs4), 34⟩]) [wd (lb ((spr xs xs.length) ^ (ll - 2) % ll) 0), wd (lb ((spr xs xs.length) ^ (ll - 2) % ll) 1), wd (lb ((spr xs xs.length) ^ (ll - 2) % ll) 2), wd (lb ((spr xs xs.length) ^ (ll - 2) % ll) 3)] 0 b8 0 [.int .u64 0, .int .u64 0, .int .u64 0, .int .u64 0] 34 rfl (by kernel_rfl) (by kernel_rfl) Tryd.sizeOf34 (by simp [Value.oneCell']) (by kernel_rfl) (by simp) (by kernel_rfl)) ?_
    refine S_nil ?_
    refine E_then ?_
    refine C_seq ?_
    refine C_seq ?_
    refine C_region ?_
    refine S_v (.slice (some ⟨bi2, oi3, none⟩) xs.length cap) ?_
    refine S_v (.int .i64 ((xs.length : Nat) : Int)) ?_
    refine S_val (.int .i64 (((xs.length : Nat) : Int) - 1 - ((0 : Nat) : Int))) (by kernel_rfl) (fun _ _ => fv (v := .int .i64 (IntKind.i64.wrap (((xs.length : Nat) : Int) - 1))) (vint (w64 (by omega) (by omega) (by omega))) (by kernel_rfl)) ?_
    refine S_v (.int .i64 (((xs.length : Nat) : Int) - 1 - ((0 : Nat) : Int))) ?_
    refine S_nil ?_
    refine E_then ?_
    refine C_block ?_
    refine C_loop1 (fun (d : Nat) => (d ≤ xs.length)) (fun (d : Nat) => fun g => ⟨#[.slice (some ⟨bi2, oi3, none⟩) xs.length cap, g 1, g 2, .slice (some ⟨b1, 0, none⟩) xs.length xs.length, g 4, g 5, g 6, pt b8 0, .int .i64 (((xs.length : Nat) : Int) - 1 - (d : Int)), g 9, g 10, g 11, g 12, g 13, g 14, g 15, g 16, g 17, g 18, g 19, g 20, g 21, g 22, g 23, g 24, g 25, g 26, g 27, g 28, g 29, g 30, g 31, g 32, g 33, g 34, g 35, g 36, g 37, g 38, g 39, g 40, g 41, g 42, g 43, g 44, g 45, g 46, g 47, g 48, g 49, g 50, g 51, g 52, g 53, g 54, g 55, g 56, g 57, g 58, g 59, g 60, g 61, g 62, g 63, g 64, g 65, g 66, g 67, g 68, g 69, g 70, g 71, g 72, g 73, g 74, g 75, g 76, g 77, g 78], []⟩) (fun (d : Nat) => [⟨b8, [wd (lb (slt xs d) 0), wd (lb (slt xs d) 1), wd (lb (slt xs d) 2), wd (lb (slt xs d) 3)], 34⟩, ⟨b5, [wd (lb (spr xs xs.length) 0), wd (lb (spr xs xs.length) 1), wd (lb (spr xs xs.length) 2), wd (lb (spr xs xs.length) 3)], 34⟩, ⟨b1, ((sll xs d).flatMap fs4), 34⟩]) (fun (d : Nat) => xs.length - d) 0 (by (try dsimp only); exact Nat.zero_le _) (by kernel_rfl) (by first | (dsimp only; done) | ((try dsimp only); kernel_rfl)) ?_
    rintro d g9 hd
    refine C_seq ?_
    refine C_seq ?_
    refine C_region ?_
    refine S_v (.int .i64 (((xs.length : Nat) : Int) - 1 - (d : Int))) ?_
    refine S_v (.bool (decide (((xs.length : Nat) : Int) - 1 - (d : Int) ≥ 0))) ?_
    refine S_nil ?_
    refine E_then ?_
    refine C_if (decide (((xs.length : Nat) : Int) - 1 - (d : Int) ≥ 0)) (by kernel_rfl) (fun hc => ?_) (fun hc => ?_)
    · replace hc := of_decide_eq_true hc
      refine C_skip ?_
      refine E_then ?_
      refine C_seq ?_
      refine C_block ?_
      refine C_seq ?_
      refine C_seq ?_
      refine C_region ?_
      refine S_v (.slice (some ⟨bi2, oi3, none⟩) xs.length cap) ?_
      refine S_val (.int .i64 ((xs.length - 1 - d : Nat) : Int)) (by kernel_rfl) (fun _ _ => fv (v := .int .i64 (((xs.length : Nat) : Int) - 1 - (d : Int))) (vint (by omega)) (by kernel_rfl)) ?_
      refine S_val (.pointer (some ⟨bi2, oi3 + (xs.length - 1 - d) * 4, none⟩)) (by kernel_rfl) (fun w _ => (ixS (k := .i64) bi2 oi3 xs.length cap 4 (xs.length - 1 - d) rfl (by kernel_rfl) (by kernel_rfl) Tryd.underlying25 Tryd.sizeOf34 (by omega)) w) ?_
      refine S_val (sc4 (xs.getD (xs.length - 1 - d) 0)) (by kernel_rfl) (ldR fs4_len 0 (xs.length - 1 - d) bi2 oi3 (oi3 + (xs.length - 1 - d) * 4) hi4 rfl (by kernel_rfl) rfl (by omega) Tryd.isAgg34 Tryd.sizeOf34) ?_
      refine S_v (.iface 34 (sc4 (xs.getD (xs.length - 1 - d) 0))) ?_
      refine S_call (by kernel_rfl) (fun _ _ => by kernel_rfl) (fun w hO => ((c_szero w (hT.own hO) (xs.getD (xs.length - 1 - d) 0) (hxs _))).mono fun _ _ ⟨he, hb⟩ => ⟨.bool (szr (xs.getD (xs.length - 1 - d) 0)), _, he, hO.call hb, ?_⟩)
      refine S_nil ?_
      refine E_then ?_
      refine C_if (szr (xs.getD (xs.length - 1 - d) 0)) (by kernel_rfl) (fun hz => ?_) (fun hz => ?_)
      · refine C_seq ?_
        refine C_region ?_
        refine S_newv (fun nb0 => pt nb0 0) [.int .u64 0, .int .u64 0, .int .u64 0, .int .u64 0] 34 (by kernel_rfl) (fun w _ => by kernel_rfl) ?_
        intro b10 hb10 Hb10
        refine S_nil ?_
        refine E_then ?_
        refine C_seq ?_
        refine C_region ?_
        refine S_v (.slice (some ⟨b1, 0, none⟩) xs.length xs.length) ?_
        refine S_val (.int .i64 ((xs.length - 1 - d : Nat) : Int)) (by kernel_rfl) (fun _ _ => fv (v := .int .i64 (((xs.length : Nat) : Int) - 1 - (d : Int))) (vint (by omega)) (by kernel_rfl)) ?_
        refine S_val (.agg #[.int .u64 0, .int .u64 0, .int .u64 0, .int .u64 0]) (by kernel_rfl) (ldN [.int .u64 0, .int .u64 0, .int .u64 0, .int .u64 0] 0 b10 0 [.int .u64 0, .int .u64 0, .int .u64 0, .int .u64 0] 34 rfl (by kernel_rfl) Tryd.isAgg34 Tryd.sizeOf34 (by kernel_rfl) (by kernel_rfl)) ?_
        refine S_val (.pointer (some ⟨b1, 0 + (xs.length - 1 - d) * 4, none⟩)) (by kernel_rfl) (fun w _ => (ixS (k := .i64) b1 0 xs.length xs.length 4 (xs.length - 1 - d) rfl (by kernel_rfl) (by kernel_rfl) Tryd.underlying25 Tryd.sizeOf34 (by omega)) w) ?_
        refine S_do (by kernel_rfl) (stF (L' := [⟨b10, [.int .u64 0, .int .u64 0, .int .u64 0, .int .u64 0], 34⟩, ⟨b8, [wd (lb (slt xs d) 0), wd (lb (slt xs d) 1), wd (lb (slt xs d) 2), wd (lb (slt xs d) 3)], 34⟩, ⟨b5, [wd (lb (spr xs xs.length) 0), wd (lb (spr xs xs.length) 1), wd (lb (spr xs xs.length) 2), wd (lb (spr xs xs.length) 3)], 34⟩, ⟨b1, (((sll xs d).set (xs.length - 1 - d) 0).flatMap fs4), 34⟩]) fs4_len fs4_one (sll xs d) 0 (xs.length - 1 - d) (0 + (xs.length - 1 - d) * 4) 3 b1 34 rfl (by kernel_rfl) (by kernel_rfl) (by omega) (by rw [ill_length]; omega) Tryd.sizeOf34 (by kernel_rfl) (by kernel_rfl)) ?_
        refine S_nil ?_
        refine E_then ?_
        refine C_exit ?_
        refine E_pass_exit ?_
        refine E_outblock ?_
        refine E_then ?_
        refine C_region ?_
        refine S_v (.int .i64 (((xs.length : Nat) : Int) - 1 - (d : Int))) ?_
        refine S_val (.int .i64 (((xs.length : Nat) : Int) - 1 - ((d + 1 : Nat) : Int))) (by kernel_rfl) (fun _ _ => fv (v := .int .i64 (IntKind.i64.wrap ((((xs.length : Nat) : Int) - 1 - (d : Int)) - 1))) (vint (w64 (by omega) (by omega) (by omega))) (by kernel_rfl)) ?_
        refine S_v (.int .i64 (((xs.length : Nat) : Int) - 1 - ((d + 1 : Nat) : Int))) ?_
        refine S_nil ?_
        exact E_norm (fun w hw => ⟨d + 1, by omega, (by kernel_rfl), (by (try dsimp only); omega), Own.eq hw.tail (by (try dsimp only); rw [sll_z hz, slt_z hz])⟩)
      · replace hz : ¬ szr (xs.getD (xs.length - 1 - d) 0) = true := by intro h9; rw [h9] at hz; exact Bool.noConfusion hz
        refine C_skip ?_
        refine E_then ?_
        refine C_seq ?_
        refine C_drawn [.pure, .pure, .pure, .pure, .pure, .held, .pure, .held, .held, .pure, .eff] (by kernel_rfl) (by kernel_rfl) ?_
        refine D_v (.slice (some ⟨b1, 0, none⟩) xs.length xs.length) ?_
        refine D_val (.int .i64 ((xs.length - 1 - d : Nat) : Int)) (by kernel_rfl) (fun _ => fv (v := .int .i64 (((xs.length : Nat) : Int) - 1 - (d : Int))) (vint (by omega)) (by kernel_rfl)) ?_
        refine D_v (.slice (some ⟨b1, 0, none⟩) xs.length xs.length) ?_
        refine D_val (.int .i64 ((xs.length - 1 - d : Nat) : Int)) (by kernel_rfl) (fun _ => fv (v := .int .i64 (((xs.length : Nat) : Int) - 1 - (d : Int))) (vint (by omega)) (by kernel_rfl)) ?_
        refine D_val (.pointer (some ⟨b1, 0 + (xs.length - 1 - d) * 4, none⟩)) (by kernel_rfl) (ixS (k := .i64) b1 0 xs.length xs.length 4 (xs.length - 1 - d) rfl (by kernel_rfl) (by kernel_rfl) Tryd.underlying25 Tryd.sizeOf34 (by omega)) ?_
        refine D_held (sc4 ((sll xs d).getD (xs.length - 1 - d) 0)) (by kernel_rfl) (ldF fs4_len (sll xs d) 0 (xs.length - 1 - d) (0 + (xs.length - 1 - d) * 4) 2 b1 34 rfl (by kernel_rfl) (by omega) (by rw [ill_length]; omega) Tryd.isAgg34 Tryd.sizeOf34 (by kernel_rfl)) ?_
        refine D_v (.iface 34 (sc4 ((sll xs d).getD (xs.length - 1 - d) 0))) ?_
        refine D_held (sc4 (slt xs d)) (by kernel_rfl) (ldN [wd (lb (slt xs d) 0), wd (lb (slt xs d) 1), wd (lb (slt xs d) 2), wd (lb (slt xs d) 3)] 0 b8 0 [wd (lb (slt xs d) 0), wd (lb (slt xs d) 1), wd (lb (slt xs d) 2), wd (lb (slt xs d) 3)] 34 rfl (by kernel_rfl) Tryd.isAgg34 Tryd.sizeOf34 (by kernel_rfl) (by kernel_rfl)) ?_
        refine D_call (sc4 (((sll xs d).getD (xs.length - 1 - d) 0) * (slt xs d) % ll)) (by kernel_rfl) (fun _ _ => by kernel_rfl) (fun w hO => (c_smul w (hT.own hO) ((sll xs d).getD (xs.length - 1 - d) 0) (slt xs d) (sll_lt _ _ _) (slt_lt _ _))) ?_
        refine D_val (.pointer (some ⟨b1, 0 + (xs.length - 1 - d) * 4, none⟩)) (by kernel_rfl) (ixS (k := .i64) b1 0 xs.length xs.length 4 (xs.length - 1 - d) rfl (by kernel_rfl) (by kernel_rfl) Tryd.underlying25 Tryd.sizeOf34 (by omega)) ?_
        refine D_do (by kernel_rfl) (stF (L' := [⟨b8, [wd (lb (slt xs d) 0), wd (lb (slt xs d) 1), wd (lb (slt xs d) 2), wd (lb (slt xs d) 3)], 34⟩, ⟨b5, [wd (lb (spr xs xs.length) 0), wd (lb (spr xs xs.length) 1), wd (lb (spr xs xs.length) 2), wd (lb (spr xs xs.length) 3)], 34⟩, ⟨b1, (((sll xs d).set (xs.length - 1 - d) (((sll xs d).getD (xs.length - 1 - d) 0) * (slt xs d) % ll)).flatMap fs4), 34⟩]) fs4_len fs4_one (sll xs d) (((sll xs d).getD (xs.length - 1 - d) 0) * (slt xs d) % ll) (xs.length - 1 - d) (0 + (xs.length - 1 - d) * 4) 2 b1 34 rfl (by kernel_rfl) (by kernel_rfl) (by omega) (by rw [ill_length]; omega) Tryd.sizeOf34 (by kernel_rfl) (by kernel_rfl)) ?_
        refine D_nil ?_
        refine E_then ?_
        refine C_drawn [.held, .pure, .pure, .pure, .pure, .held, .held, .eff] (by kernel_rfl) (by kernel_rfl) ?_
        refine D_held (sc4 (slt xs d)) (by kernel_rfl) (ldN [wd (lb (slt xs d) 0), wd (lb (slt xs d) 1), wd (lb (slt xs d) 2), wd (lb (slt xs d) 3)] 0 b8 0 [wd (lb (slt xs d) 0), wd (lb (slt xs d) 1), wd (lb (slt xs d) 2), wd (lb (slt xs d) 3)] 34 rfl (by kernel_rfl) Tryd.isAgg34 Tryd.sizeOf34 (by kernel_rfl) (by kernel_rfl)) ?_
        refine D_v (.iface 34 (sc4 (slt xs d))) ?_
        refine D_v (.slice (some ⟨bi2, oi3, none⟩) xs.length cap) ?_
        refine D_val (.int .i64 ((xs.length - 1 - d : Nat) : Int)) (by kernel_rfl) (fun _ => fv (v := .int .i64 (((xs.length : Nat) : Int) - 1 - (d : Int))) (vint (by omega)) (by kernel_rfl)) ?_
        refine D_val (.pointer (some ⟨bi2, oi3 + (xs.length - 1 - d) * 4, none⟩)) (by kernel_rfl) (ixS (k := .i64) bi2 oi3 xs.length cap 4 (xs.length - 1 - d) rfl (by kernel_rfl) (by kernel_rfl) Tryd.underlying25 Tryd.sizeOf34 (by omega)) ?_
        refine D_held (sc4 (xs.getD (xs.length - 1 - d) 0)) (by kernel_rfl) (ldR fs4_len 0 (xs.length - 1 - d) bi2 oi3 (oi3 + (xs.length - 1 - d) * 4) hi4 rfl (by kernel_rfl) rfl (by omega) Tryd.isAgg34 Tryd.sizeOf34) ?_
        refine D_call (sc4 ((slt xs d) * (xs.getD (xs.length - 1 - d) 0) % ll)) (by kernel_rfl) (fun _ _ => by kernel_rfl) (fun w hO => (c_smul w (hT.own hO) (slt xs d) (xs.getD (xs.length - 1 - d) 0) (slt_lt _ _) (hxs _))) ?_
        refine D_do (by kernel_rfl) (stN (L' := [⟨b8, [wd (lb ((slt xs d) * (xs.getD (xs.length - 1 - d) 0) % ll) 0), wd (lb ((slt xs d) * (xs.getD (xs.length - 1 - d) 0) % ll) 1), wd (lb ((slt xs d) * (xs.getD (xs.length - 1 - d) 0) % ll) 2), wd (lb ((slt xs d) * (xs.getD (xs.length - 1 - d) 0) % ll) 3)], 34⟩, ⟨b5, [wd (lb (spr xs xs.length) 0), wd (lb (spr xs xs.length) 1), wd (lb (spr xs xs.length) 2), wd (lb (spr xs xs.length) 3)], 34⟩, ⟨b1, (((sll xs d).set (xs.length - 1 - d) (((sll xs d).getD (xs.length - 1 - d) 0) * (slt xs d) % ll)).flatMap fs4), 34⟩]) [wd (lb ((slt xs d) * (xs.getD (xs.length - 1 - d) 0) % ll) 0), wd (lb ((slt xs d) * (xs.getD (xs.length - 1 - d) 0) % ll) 1), wd (lb ((slt xs d) * (xs.getD (xs.length - 1 - d) 0) % ll) 2), wd (lb ((slt xs d) * (xs.getD (xs.length - 1 - d) 0) % ll) 3)] 0 b8 0 [wd (lb (slt xs d) 0), wd (lb (slt xs d) 1), wd (lb (slt xs d) 2), wd (lb (slt xs d) 3)] 34 rfl (by kernel_rfl) (by kernel_rfl) Tryd.sizeOf34 (by simp [Value.oneCell']) (by kernel_rfl) (by simp) (by kernel_rfl)) ?_
        refine D_nil ?_
        refine E_inblock ?_
        refine E_then ?_
        refine C_region ?_
        refine S_v (.int .i64 (((xs.length : Nat) : Int) - 1 - (d : Int))) ?_
        refine S_val (.int .i64 (((xs.length : Nat) : Int) - 1 - ((d + 1 : Nat) : Int))) (by kernel_rfl) (fun _ _ => fv (v := .int .i64 (IntKind.i64.wrap ((((xs.length : Nat) : Int) - 1 - (d : Int)) - 1))) (vint (w64 (by omega) (by omega) (by omega))) (by kernel_rfl)) ?_
        refine S_v (.int .i64 (((xs.length : Nat) : Int) - 1 - ((d + 1 : Nat) : Int))) ?_
        refine S_nil ?_
        exact E_norm (fun w hw => ⟨d + 1, by omega, (by kernel_rfl), (by (try dsimp only); omega), Own.eq hw (by (try dsimp only); rw [sll_n hz, slt_n hz])⟩)
    · replace hc := of_decide_eq_false hc
      obtain rfl : d = xs.length := by omega
      refine C_exit ?_
      refine E_pass_exit ?_
      refine E_pass_exit ?_
      refine E_outblock ?_
      refine E_then ?_
      refine C_seq ?_
      refine C_region ?_
      refine S_v (.slice (some ⟨b1, 0, none⟩) xs.length xs.length) ?_
      refine S_v (.slice (some ⟨b1, 0, none⟩) xs.length xs.length) ?_
      refine S_nil ?_
      refine E_then ?_
      refine C_ret ?_
      exact gives_row (mk := (fun v => v)) (Rw.whole' fs4_len b1 (sll xs xs.length) xs.length (by exact ill_length _ _ _ _ _ _ _) (le_maxLen (by omega))) (sub1 2 (by kernel_rfl)) rfl (res1 Tryd.results8 (by kernel_rfl))
theorem c_finvall (w0 : World)  (v : Value) (xs : List F5) (hxs : ∀ j, (xs.getD j F5.z).ok) (hv : Rd w0 v 5 ff5 xs) (h0 : 0 < xs.length) (hl : xs.length ≤ 1000000) : Gives Tryd.prog 9 #[v] w0 31 5 xs.length ((fll xs xs.length).flatMap ff5) (fun v => v) := by
  obtain ⟨ao, cap, rfl, hx⟩ := hv.o
  unfold Gives
  refine calls_start Tryd.func9 rfl ?_
  refine C_seq ?_
  refine C_region ?_
  refine S_v (.slice none 0 0) ?_
  refine S_nil ?_
  refine E_then ?_
  refine C_seq ?_
  refine C_seq ?_
  refine C_region ?_
  refine S_v (.slice ao xs.length cap) ?_
  refine S_v (.int .i64 ((xs.length : Nat) : Int)) ?_
  refine S_val (.bool false) (by kernel_rfl) (fun _ _ => fv (v := .bool (((xs.length : Nat) : Int) == 0)) (vbool (beq_eq_false_iff_ne.2 (by omega))) (by kernel_rfl)) ?_
  refine S_nil ?_
  refine E_then ?_
  refine C_false (by kernel_rfl) ?_
  refine C_skip ?_
  refine E_then ?_
  refine C_seq ?_
  refine C_region ?_
  refine S_v (.slice ao xs.length cap) ?_
  refine S_v (.int .i64 ((xs.length : Nat) : Int)) ?_
  refine S_newv (fun nb0 => .slice (some ⟨nb0, 0, none⟩) xs.length xs.length) ((List.replicate xs.length F5.z).flatMap ff5) 31 (by kernel_rfl) (mk (kl := .i64) (kc := .i64) (z := .agg #[.int .u64 0, .int .u64 0, .int .u64 0, .int .u64 0, .int .u64 0]) (i := Tryd.t31) xs.length xs.length Tryd.underlying28 (by kernel_rfl) (by kernel_rfl) rfl (by kernel_rfl) (by kernel_rfl) (by omega) (by simp only [Tryd.t31]; omega) (by omega) ((List.replicate xs.length F5.z).flatMap ff5) (madeF (f := ff5) (d := F5.z) xs.length rfl)) ?_
  intro b1 hb1 Hb1
  refine S_v (.slice (some ⟨b1, 0, none⟩) xs.length xs.length) ?_
  refine S_nil ?_
  refine E_then ?_
  refine C_seq ?_
  refine C_region ?_
  obtain ⟨bi2, oi3, rfl, hi4⟩ := hx.op (by omega)
  refine S_v (.slice (some ⟨bi2, oi3, none⟩) xs.length cap) ?_
  refine S_val (.pointer (some ⟨bi2, oi3 + 0 * 5, none⟩)) (by kernel_rfl) (fun w _ => (ixS (k := .i64) bi2 oi3 xs.length cap 5 0 rfl (by kernel_rfl) (by kernel_rfl) Tryd.underlying28 Tryd.sizeOf31 (by omega)) w) ?_
  refine S_val (F5.v (xs.getD 0 F5.z)) (by kernel_rfl) (ldR ff5_len F5.z 0 bi2 oi3 (oi3 + 0 * 5) hi4 rfl (by kernel_rfl) rfl (by omega) Tryd.isAgg31 Tryd.sizeOf31) ?_
  refine S_v (.iface 31 (F5.v (xs.getD 0 F5.z))) ?_
  refine S_pure (v := .agg #[.int .u64 1, .int .u64 0, .int .u64 0, .int .u64 0, .int .u64 0]) (by kernel_rfl) (c_fone (xs.getD 0 F5.z)) (fun _ => by kernel_rfl) ?_
  refine S_newv (fun nb0 => pt nb0 0) [.int .u64 0, .int .u64 0, .int .u64 0, .int .u64 0, .int .u64 0] 31 (by kernel_rfl) (fun w _ => by kernel_rfl) ?_
  intro b5 hb5 Hb5
  refine S_do (by kernel_rfl) (stN (L' := [⟨b5, [.int .u64 1, .int .u64 0, .int .u64 0, .int .u64 0, .int .u64 0], 31⟩, ⟨b1, ((List.replicate xs.length F5.z).flatMap ff5), 31⟩]) [.int .u64 1, .int .u64 0, .int .u64 0, .int .u64 0, .int .u64 0] 0 b5 0 [.int .u64 0, .int .u64 0, .int .u64 0, .int .u64 0, .int .u64 0] 31 rfl (by kernel_rfl) (by kernel_rfl) Tryd.sizeOf31 (by simp [Value.oneCell']) (by kernel_rfl) (by simp) (by kernel_rfl)) ?_
  refine S_nil ?_
  refine E_then ?_
  refine C_seq ?_
  refine C_seq ?_
  refine C_region ?_
  refine S_v (.slice (some ⟨bi2, oi3, none⟩) xs.length cap) ?_
  refine S_v (.int .i64 ((xs.length : Nat) : Int)) ?_
  refine S_v (.int .i64 0) ?_
  refine S_nil ?_
  refine E_then ?_
  refine C_block ?_
  refine C_loop1 (fun (k : Nat) => (k ≤ xs.length)) (fun (k : Nat) => fun g => ⟨#[.slice (some ⟨bi2, oi3, none⟩) xs.length cap, g 1, g 2, .slice (some ⟨b1, 0, none⟩) xs.length xs.length, pt b5 0, g 5, g 6, g 7, g 8, g 9, g 10, g 11, g 12, g 13, g 14, g 15, g 16, g 17, g 18, g 19, g 20, .slice (some ⟨bi2, oi3, none⟩) xs.length cap, .int .i64 ((xs.length : Nat) : Int), .int .i64 ((k : Nat) : Int), g 24, g 25, g 26, g 27, g 28, g 29, g 30, g 31, g 32, g 33, g 34, g 35, g 36, g 37, g 38, g 39, g 40, g 41, g 42, g 43, g 44, g 45, g 46, g 47, g 48, g 49, g 50, g 51, g 52, g 53, g 54, g 55, g 56, g 57, g 58, g 59, g 60, g 61, g 62, g 63, g 64, g 65, g 66, g 67, g 68, g 69, g 70, g 71, g 72, g 73, g 74, g 75, g 76, g 77, g 78], []⟩) (fun (k : Nat) => [⟨b5, [wd ((fpr xs k).l0), wd ((fpr xs k).l1), wd ((fpr xs k).l2), wd ((fpr xs k).l3), wd ((fpr xs k).l4)], 31⟩, ⟨b1, ((fpl xs k).flatMap ff5), 31⟩]) (fun (k : Nat) => xs.length - k) 0 (by (try dsimp only); exact Nat.zero_le _) (by kernel_rfl) (by first | (dsimp only; done) | ((try dsimp only); kernel_rfl)) ?_
  rintro k g6 hk
  refine C_seq ?_
  refine C_region ?_
  refine S_v (.bool (decide (((k : Nat) : Int) < ((xs.length : Nat) : Int)))) ?_
  refine S_nil ?_
  refine E_then ?_
  refine C_seq ?_
  refine C_if (decide (((k : Nat) : Int) < ((xs.length : Nat) : Int))) (by kernel_rfl) (fun hc => ?_) (fun hc => ?_)
  · replace hc := of_decide_eq_true hc
    refine C_skip ?_
    refine E_then ?_
    refine C_seq ?_
    refine C_block ?_
    refine C_seq ?_
    refine C_region ?_
    refine S_v (.int .i64 ((k : Nat) : Int)) ?_
    refine S_val (.pointer (some ⟨bi2, oi3 + k * 5, none⟩)) (by kernel_rfl) (fun w _ => (ixS (k := .i64) bi2 oi3 xs.length cap 5 k rfl (by kernel_rfl) (by kernel_rfl) Tryd.underlying28 Tryd.sizeOf31 (by omega)) w) ?_
    refine S_val (F5.v (xs.getD k F5.z)) (by kernel_rfl) (ldR ff5_len F5.z k bi2 oi3 (oi3 + k * 5) hi4 rfl (by kernel_rfl) rfl (by omega) Tryd.isAgg31 Tryd.sizeOf31) ?_
    refine S_newv (fun nb0 => pt nb0 0) [.int .u64 0, .int .u64 0, .int .u64 0, .int .u64 0, .int .u64 0] 31 (by kernel_rfl) (fun w _ => by kernel_rfl) ?_
    intro b7 hb7 Hb7
    refine S_v (.int .i64 ((k : Nat) : Int)) ?_
    refine S_do (by kernel_rfl) (stN (L' := [⟨b7, [wd ((xs.getD k F5.z).l0), wd ((xs.getD k F5.z).l1), wd ((xs.getD k F5.z).l2), wd ((xs.getD k F5.z).l3), wd ((xs.getD k F5.z).l4)], 31⟩, ⟨b5, [wd ((fpr xs k).l0), wd ((fpr xs k).l1), wd ((fpr xs k).l2), wd ((fpr xs k).l3), wd ((fpr xs k).l4)], 31⟩, ⟨b1, ((fpl xs k).flatMap ff5), 31⟩]) [wd ((xs.getD k F5.z).l0), wd ((xs.getD k F5.z).l1), wd ((xs.getD k F5.z).l2), wd ((xs.getD k F5.z).l3), wd ((xs.getD k F5.z).l4)] 0 b7 0 [.int .u64 0, .int .u64 0, .int .u64 0, .int .u64 0, .int .u64 0] 31 rfl (by kernel_rfl) (by kernel_rfl) Tryd.sizeOf31 (by simp [Value.oneCell']) (by kernel_rfl) (by simp) (by kernel_rfl)) ?_
    refine S_nil ?_
    refine E_then ?_
    refine C_seq ?_
    refine C_region ?_
    refine S_v (.slice (some ⟨b1, 0, none⟩) xs.length xs.length) ?_
    refine S_v (.int .i64 ((k : Nat) : Int)) ?_
    refine S_val (F5.v (fpr xs k)) (by kernel_rfl) (ldN [wd ((fpr xs k).l0), wd ((fpr xs k).l1), wd ((fpr xs k).l2), wd ((fpr xs k).l3), wd ((fpr xs k).l4)] 1 b5 0 [wd ((fpr xs k).l0), wd ((fpr xs k).l1), wd ((fpr xs k).l2), wd ((fpr xs k).l3), wd ((fpr xs k).l4)] 31 rfl (by kernel_rfl) Tryd.isAgg31 Tryd.sizeOf31 (by kernel_rfl) (by kernel_rfl)) ?_
    refine S_val (.pointer (some ⟨b1, 0 + k * 5, none⟩)) (by kernel_rfl) (fun w _ => (ixS (k := .i64) b1 0 xs.length xs.length 5 k rfl (by kernel_rfl) (by kernel_rfl) Tryd.underlying28 Tryd.sizeOf31 (by omega)) w) ?_
    refine S_do (by kernel_rfl) (stF (L' := [⟨b7, [wd ((xs.getD k F5.z).l0), wd ((xs.getD k F5.z).l1), wd ((xs.getD k F5.z).l2), wd ((xs.getD k F5.z).l3), wd ((xs.getD k F5.z).l4)], 31⟩, ⟨b5, [wd ((fpr xs k).l0), wd ((fpr xs k).l1), wd ((fpr xs k).l2), wd ((fpr xs k).l3), wd ((fpr xs k).l4)], 31⟩, ⟨b1, (((fpl xs k).set k (fpr xs k)).flatMap ff5), 31⟩]) ff5_len ff5_one (fpl xs k) (fpr xs k) k (0 + k * 5) 2 b1 31 rfl (by kernel_rfl) (by kernel_rfl) (by omega) (by rw [ipl_length]; omega) Tryd.sizeOf31 (by kernel_rfl) (by kernel_rfl)) ?_
    refine S_nil ?_
    refine E_then ?_
    refine C_seq ?_
    refine C_region ?_
    refine S_val (F5.v (xs.getD k F5.z)) (by kernel_rfl) (ldN [wd ((xs.getD k F5.z).l0), wd ((xs.getD k F5.z).l1), wd ((xs.getD k F5.z).l2), wd ((xs.getD k F5.z).l3), wd ((xs.getD k F5.z).l4)] 0 b7 0 [wd ((xs.getD k F5.z).l0), wd ((xs.getD k F5.z).l1), wd ((xs.getD k F5.z).l2), wd ((xs.getD k F5.z).l3), wd ((xs.getD k F5.z).l4)] 31 rfl (by kernel_rfl) Tryd.isAgg31 Tryd.sizeOf31 (by kernel_rfl) (by kernel_rfl)) ?_
    refine S_v (.iface 31 (F5.v (xs.getD k F5.z))) ?_
    refine S_pure (v := .bool (fzr (xs.getD k F5.z))) (by kernel_rfl) (c_fzero (xs.getD k F5.z) (hxs _)) (fun _ => by kernel_rfl) ?_
    refine S_v (.bool (!(fzr (xs.getD k F5.z)))) ?_
    refine S_nil ?_
    refine E_then ?_
    refine C_if (!(fzr (xs.getD k F5.z))) (by kernel_rfl) (fun hz => ?_) (fun hz => ?_)
    · replace hz : ¬ fzr (xs.getD k F5.z) = true := by intro h9; rw [h9] at hz; exact Bool.noConfusion hz
      refine C_region ?_
      refine S_val (F5.v (fpr xs k)) (by kernel_rfl) (ldN [wd ((fpr xs k).l0), wd ((fpr xs k).l1), wd ((fpr xs k).l2), wd ((fpr xs k).l3), wd ((fpr xs k).l4)] 1 b5 0 [wd ((fpr xs k).l0), wd ((fpr xs k).l1), wd ((fpr xs k).l2), wd ((fpr xs k).l3), wd ((fpr xs k).l4)] 31 rfl (by kernel_rfl) Tryd.isAgg31 Tryd.sizeOf31 (by kernel_rfl) (by kernel_rfl)) ?_
      refine S_v (.iface 31 (F5.v (fpr xs k))) ?_
      refine S_val (F5.v (xs.getD k F5.z)) (by kernel_rfl) (ldN [wd ((xs.getD k F5.z).l0), wd ((xs.getD k F5.z).l1), wd ((xs.getD k F5.z).l2), wd ((xs.getD k F5.z).l3), wd ((xs.getD k F5.z).l4)] 0 b7 0 [wd ((xs.getD k F5.z).l0), wd ((xs.getD k F5.z).l1), wd ((xs.getD k F5.z).l2), wd ((xs.getD k F5.z).l3), wd ((xs.getD k F5.z).l4)] 31 rfl (by kernel_rfl) Tryd.isAgg31 Tryd.sizeOf31 (by kernel_rfl) (by kernel_rfl)) ?_
      refine S_pure (v := F5.v (F5.of ((fpr xs k).val * (xs.getD k F5.z).val % pp))) (by kernel_rfl) (c_fmul (fpr xs k) (xs.getD k F5.z) (fpr_ok _ _) (hxs _)) (fun _ => by kernel_rfl) ?_
      refine S_do (by kernel_rfl) (stN (L' := [⟨b7, [wd ((xs.getD k F5.z).l0), wd ((xs.getD k F5.z).l1), wd ((xs.getD k F5.z).l2), wd ((xs.getD k F5.z).l3), wd ((xs.getD k F5.z).l4)], 31⟩, ⟨b5, [wd ((F5.of ((fpr xs k).val * (xs.getD k F5.z).val % pp)).l0), wd ((F5.of ((fpr xs k).val * (xs.getD k F5.z).val % pp)).l1), wd ((F5.of ((fpr xs k).val * (xs.getD k F5.z).val % pp)).l2), wd ((F5.of ((fpr xs k).val * (xs.getD k F5.z).val % pp)).l3), wd ((F5.of ((fpr xs k).val * (xs.getD k F5.z).val % pp)).l4)], 31⟩, ⟨b1, (((fpl xs k).set k (fpr xs k)).flatMap ff5), 31⟩]) [wd ((F5.of ((fpr xs k).val * (xs.getD k F5.z).val % pp)).l0), wd ((F5.of ((fpr xs k).val * (xs.getD k F5.z).val % pp)).l1), wd ((F5.of ((fpr xs k).val * (xs.getD k F5.z).val % pp)).l2), wd ((F5.of ((fpr xs k).val * (xs.getD k F5.z).val % pp)).l3), wd ((F5.of ((fpr xs k).val * (xs.getD k F5.z).val % pp)).l4)] 1 b5 0 [wd ((fpr xs k).l0), wd ((fpr xs k).l1), wd ((fpr xs k).l2), wd ((fpr xs k).l3), wd ((fpr xs k).l4)] 31 rfl (by kernel_rfl) (by kernel_rfl) Tryd.sizeOf31 (by simp [Value.oneCell']) (by kernel_rfl) (by simp) (by kernel_rfl)) ?_
      refine S_nil ?_
      refine E_inblock ?_
      refine E_then ?_
      refine C_region ?_
      refine S_val (.int .i64 ((k + 1 : Nat) : Int)) (by kernel_rfl) (fun _ _ => fv (v := .int .i64 (IntKind.i64.wrap (((k : Nat) : Int) + 1))) (vint (w64 (by omega) (by omega) (by omega))) (by kernel_rfl)) ?_
      refine S_v (.int .i64 ((k + 1 : Nat) : Int)) ?_
      refine S_nil ?_
      exact E_norm (fun w hw => ⟨k + 1, by omega, (by kernel_rfl), (by (try dsimp only); omega), Own.eq hw.tail (by (try dsimp only); rw [fpl_s, fpr_n hz])⟩)
    · replace hz : fzr (xs.getD k F5.z) = true := by revert hz; cases fzr (xs.getD k F5.z) <;> intro h9 <;> first | rfl | exact Bool.noConfusion h9
      refine C_skip ?_
      refine E_inblock ?_
      refine E_then ?_
      refine C_region ?_
      refine S_val (.int .i64 ((k + 1 : Nat) : Int)) (by kernel_rfl) (fun _ _ => fv (v := .int .i64 (IntKind.i64.wrap (((k : Nat) : Int) + 1))) (vint (w64 (by omega) (by omega) (by omega))) (by kernel_rfl)) ?_
      refine S_v (.int .i64 ((k + 1 : Nat) : Int)) ?_
      refine S_nil ?_
      exact E_norm (fun w hw => ⟨k + 1, by omega, (by kernel_rfl), (by (try dsimp only); omega), Own.eq hw.tail (by (try dsimp only); rw [fpl_s, fpr_z hz])⟩)
  · replace hc := of_decide_eq_false hc
    obtain rfl : k = xs.length := by omega
    refine C_exit ?_
    refine E_pass_exit ?_
    refine E_pass_exit ?_
    refine E_outblock ?_
    refine E_then ?_
    refine C_seq ?_
    refine C_region ?_
    refine S_val (F5.v (fpr xs xs.length)) (by kernel_rfl) (ldN [wd ((fpr xs xs.length).l0), wd ((fpr xs xs.length).l1), wd ((fpr xs xs.length).l2), wd ((fpr xs xs.length).l3), wd ((fpr xs xs.length).l4)] 0 b5 0 [wd ((fpr xs xs.length).l0), wd ((fpr xs xs.length).l1), wd ((fpr xs xs.length).l2), wd ((fpr xs xs.length).l3), wd ((fpr xs xs.length).l4)] 31 rfl (by kernel_rfl) Tryd.isAgg31 Tryd.sizeOf31 (by kernel_rfl) (by kernel_rfl)) ?_
    refine S_v (.iface 31 (F5.v (fpr xs xs.length))) ?_
    refine S_pure (v := F5.v (F5.of ((fpr xs xs.length).val ^ (pp - 2) % pp))) (by kernel_rfl) (c_finvert (fpr xs xs.length) (fpr_ok _ _)) (fun _ => by kernel_rfl) ?_
    refine S_newv (fun nb0 => pt nb0 0) [.int .u64 0, .int .u64 0, .int .u64 0, .int .u64 0, .int .u64 0] 31 (by kernel_rfl) (fun w _ => by kernel_rfl) ?_
    intro b8 hb8 Hb8
    refine S_do (by kernel_rfl) (stN (L' := [⟨b8, [wd ((F5.of ((fpr xs xs.length).val ^ (pp - 2) % pp)).l0), wd ((F5.of ((fpr xs xs.length).val ^ (pp - 2) % pp)).l1), wd ((F5.of ((fpr xs xs.length).val ^ (pp - 2) % pp)).l2), wd ((F5.of ((fpr xs xs.length).val ^ (pp - 2) % pp)).l3), wd ((F5.of ((fpr xs xs.length).val ^ (pp - 2) % pp)).l4)], 31⟩, ⟨b5, [wd ((fpr xs xs.length).l0), wd ((fpr xs xs.length).l1), wd ((fpr xs xs.length).l2), wd ((fpr xs xs.length).l3), wd ((fpr xs xs.length).l4)], 31⟩, ⟨b1, ((fpl xs xs.length).flatMap ff5), 31⟩]) [wd ((F5.of ((fpr xs xs.length).val ^ (pp - 2) % pp)).l0), wd ((F5.of ((fpr xs xs.length).val ^ (pp - 2) % pp)).l1), wd ((F5.of ((fpr xs xs.length).val ^ (pp - 2) % pp)).l2), wd ((F5.of ((fpr xs xs.length).val ^ (pp - 2) % pp)).l3), wd ((F5.of ((fpr xs xs.length).val ^ (pp - 2) % pp)).l4)] 0 b8 0 [.int .u64 0, .int .u64 0, .int .u64 0, .int .u64 0, .int .u64 0] 31 rfl (by kernel_rfl) (by kernel_rfl) Tryd.sizeOf31 (by simp [Value.oneCell']) (by kernel_rfl) (by simp) (by kernel_rfl)) ?_
    refine S_nil ?_
    refine E_then ?_
    refine C_seq ?_
    refine C_seq ?_
    refine C_region ?_
    refine S_v (.slice (some ⟨bi2, oi3, none⟩) xs.length cap) ?_
    refine S_v (.int .i64 ((xs.length : Nat) : Int)) ?_
    refine S_val (.int .i64 (((xs.length : Nat) : Int) - 1 - ((0 : Nat) : Int))) (by kernel_rfl) (fun _ _ => fv (v := .int .i64 (IntKind.i64.wrap (((xs.length : Nat) : Int) - 1))) (vint (w64 (by omega) (by omega) (by omega))) (by kernel_rfl)) ?_
    refine S_v (.int .i64 (((xs.length : Nat) : Int) - 1 - ((0 : Nat) : Int))) ?_
    refine S_nil ?_
    refine E_then ?_
    refine C_block ?_
    refine C_loop1 (fun (d : Nat) => (d ≤ xs.length)) (fun (d : Nat) => fun g => ⟨#[.slice (some ⟨bi2, oi3, none⟩) xs.length cap, g 1, g 2, .slice (some ⟨b1, 0, none⟩) xs.length xs.length, g 4, g 5, g 6, pt b8 0, .int .i64 (((xs.length : Nat) : Int) - 1 - (d : Int)), g 9, g 10, g 11, g 12, g 13, g 14, g 15, g 16, g 17, g 18, g 19, g 20, g 21, g 22, g 23, g 24, g 25, g 26, g 27, g 28, g 29, g 30, g 31, g 32, g 33, g 34, g 35, g 36, g 37, g 38, g 39, g 40, g 41, g 42, g 43, g 44, g 45, g 46, g 47, g 48, g 49, g 50, g 51, g 52, g 53, g 54, g 55, g 56, g 57, g 58, g 59, g 60, g 61, g 62, g 63, g 64, g 65, g 66, g 67, g 68, g 69, g 70, g 71, g 72, g 73, g 74, g 75, g 76, g 77, g 78], []⟩) (fun (d : Nat) => [⟨b8, [wd ((flt xs d).l0), wd ((flt xs d).l1), wd ((flt xs d).l2), wd ((flt xs d).l3), wd ((flt xs d).l4)], 31⟩, ⟨b5, [wd ((fpr xs xs.length).l0), wd ((fpr xs xs.length).l1), wd ((fpr xs xs.length).l2), wd ((fpr xs xs.length).l3), wd ((fpr xs xs.length).l4)], 31⟩, ⟨b1, ((fll xs d).flatMap ff5), 31⟩]) (fun (d : Nat) => xs.length - d) 0 (by (try dsimp only); exact Nat.zero_le _) (by kernel_rfl) (by first | (dsimp only; done) | ((try dsimp only); kernel_rfl)) ?_
    rintro d g9 hd
    refine C_seq ?_
    refine C_seq ?_
    refine C_region ?_
    refine S_v (.int .i64 (((xs.length : Nat) : Int) - 1 - (d : Int))) ?_
    refine S_v (.bool (decide (((xs.length : Nat) : Int) - 1 - (d : Int) ≥ 0))) ?_
    refine S_nil ?_
    refine E_then ?_
    refine C_if (decide (((xs.length : Nat) : Int) - 1 - (d : Int) ≥ 0)) (by kernel_rfl) (fun hc => ?_) (fun hc => ?_)
    · replace hc := of_decide_eq_true hc
      refine C_skip ?_
      refine E_then ?_
      refine C_seq ?_
      refine C_block ?_
      refine C_seq ?_
      refine C_seq ?_
      refine C_region ?_
      refine S_v (.slice (some ⟨bi2, oi3, none⟩) xs.length cap) ?_
      refine S_val (.int .i64 ((xs.length - 1 - d : Nat) : Int)) (by kernel_rfl) (fun _ _ => fv (v := .int .i64 (((xs.length : Nat) : Int) - 1 - (d : Int))) (vint (by omega)) (by kernel_rfl)) ?_
      refine S_val (.pointer (some ⟨bi2, oi3 + (xs.length - 1 - d) * 5, none⟩)) (by kernel_rfl) (fun w _ => (ixS (k := .i64) bi2 oi3 xs.length cap 5 (xs.length - 1 - d) rfl (by kernel_rfl) (by kernel_rfl) Tryd.underlying28 Tryd.sizeOf31 (by omega)) w) ?_
      refine S_val (F5.v (xs.getD (xs.length - 1 - d) F5.z)) (by kernel_rfl) (ldR ff5_len F5.z (xs.length - 1 - d) bi2 oi3 (oi3 + (xs.length - 1 - d) * 5) hi4 rfl (by kernel_rfl) rfl (by omega) Tryd.isAgg31 Tryd.sizeOf31) ?_
      refine S_v (.iface 31 (F5.v (xs.getD (xs.length - 1 - d) F5.z))) ?_
      refine S_pure (v := .bool (fzr (xs.getD (xs.length - 1 - d) F5.z))) (by kernel_rfl) (c_fzero (xs.getD (xs.length - 1 - d) F5.z) (hxs _)) (fun _ => by kernel_rfl) ?_
      refine S_nil ?_
      refine E_then ?_
      refine C_if (fzr (xs.getD (xs.length - 1 - d) F5.z)) (by kernel_rfl) (fun hz => ?_) (fun hz => ?_)
      · refine C_seq ?_
        refine C_region ?_
        refine S_newv (fun nb0 => pt nb0 0) [.int .u64 0, .int .u64 0, .int .u64 0, .int .u64 0, .int .u64 0] 31 (by kernel_rfl) (fun w _ => by kernel_rfl) ?_
        intro b10 hb10 Hb10
        refine S_nil ?_
        refine E_then ?_
        refine C_seq ?_
        refine C_region ?_
        refine S_v (.slice (some ⟨b1, 0, none⟩) xs.length xs.length) ?_
        refine S_val (.int .i64 ((xs.length - 1 - d : Nat) : Int)) (by kernel_rfl) (fun _ _ => fv (v := .int .i64 (((xs.length : Nat) : Int) - 1 - (d : Int))) (vint (by omega)) (by kernel_rfl)) ?_
        refine S_val (.agg #[.int .u64 0, .int .u64 0, .int .u64 0, .int .u64 0, .int .u64 0]) (by kernel_rfl) (ldN [.int .u64 0, .int .u64 0, .int .u64 0, .int .u64 0, .int .u64 0] 0 b10 0 [.int .u64 0, .int .u64 0, .int .u64 0, .int .u64 0, .int .u64 0] 31 rfl (by kernel_rfl) Tryd.isAgg31 Tryd.sizeOf31 (by kernel_rfl) (by kernel_rfl)) ?_
        refine S_val (.pointer (some ⟨b1, 0 + (xs.length - 1 - d) * 5, none⟩)) (by kernel_rfl) (fun w _ => (ixS (k := .i64) b1 0 xs.length xs.length 5 (xs.length - 1 - d) rfl (by kernel_rfl) (by kernel_rfl) Tryd.underlying28 Tryd.sizeOf31 (by omega)) w) ?_
        refine S_do (by kernel_rfl) (stF (L' := [⟨b10, [.int .u64 0, .int .u64 0, .int .u64 0, .int .u64 0, .int .u64 0], 31⟩, ⟨b8, [wd ((flt xs d).l0), wd ((flt xs d).l1), wd ((flt xs d).l2), wd ((flt xs d).l3), wd ((flt xs d).l4)], 31⟩, ⟨b5, [wd ((fpr xs xs.length).l0), wd ((fpr xs xs.length).l1), wd ((fpr xs xs.length).l2), wd ((fpr xs xs.length).l3), wd ((fpr xs xs.length).l4)], 31⟩, ⟨b1, (((fll xs d).set (xs.length - 1 - d) F5.z).flatMap ff5), 31⟩]) ff5_len ff5_one (fll xs d) F5.z (xs.length - 1 - d) (0 + (xs.length - 1 - d) * 5) 3 b1 31 rfl (by kernel_rfl) (by kernel_rfl) (by omega) (by rw [ill_length]; omega) Tryd.sizeOf31 (by kernel_rfl) (by kernel_rfl)) ?_
        refine S_nil ?_
        refine E_then ?_
        refine C_exit ?_
        refine E_pass_exit ?_
        refine E_outblock ?_
        refine E_then ?_
        refine C_region ?_
        refine S_v (.int .i64 (((xs.length : Nat) : Int) - 1 - (d : Int))) ?_
        refine S_val (.int .i64 (((xs.length : Nat) : Int) - 1 - ((d + 1 : Nat) : Int))) (by kernel_rfl) (fun _ _ => fv (v := .int .i64 (IntKind.i64.wrap ((((xs.length : Nat) : Int) - 1 - (d : Int)) - 1))) (vint (w64 (by omega) (by omega) (by omega))) (by kernel_rfl)) ?_
        refine S_v (.int .i64 (((xs.length : Nat) : Int) - 1 - ((d + 1 : Nat) : Int))) ?_
        refine S_nil ?_
        exact E_norm (fun w hw => ⟨d + 1, by omega, (by kernel_rfl), (by (try dsimp only); omega), Own.eq hw.tail (by (try dsimp only); rw [fll_z hz, flt_z hz])⟩)
      · replace hz : ¬ fzr (xs.getD (xs.length - 1 - d) F5.z) = true := by intro h9; rw [h9] at hz; exact Bool.noConfusion hz
        refine C_skip ?_
        refine E_then ?_
        refine C_seq ?_
        refine C_drawn [.pure, .pure, .pure, .pure, .pure, .held, .pure, .held, .held, .pure, .eff] (by kernel_rfl) (by kernel_rfl) ?_
        refine D_v (.slice (some ⟨b1, 0, none⟩) xs.length xs.length) ?_
        refine D_val (.int .i64 ((xs.length - 1 - d : Nat) : Int)) (by kernel_rfl) (fun _ => fv (v := .int .i64 (((xs.length : Nat) : Int) - 1 - (d : Int))) (vint (by omega)) (by kernel_rfl)) ?_
        refine D_v (.slice (some ⟨b1, 0, none⟩) xs.length xs.length) ?_
        refine D_val (.int .i64 ((xs.length - 1 - d : Nat) : Int)) (by kernel_rfl) (fun _ => fv (v := .int .i64 (((xs.length : Nat) : Int) - 1 - (d : Int))) (vint (by omega)) (by kernel_rfl)) ?_
        refine D_val (.pointer (some ⟨b1, 0 + (xs.length - 1 - d) * 5, none⟩)) (by kernel_rfl) (ixS (k := .i64) b1 0 xs.length xs.length 5 (xs.length - 1 - d) rfl (by kernel_rfl) (by kernel_rfl) Tryd.underlying28 Tryd.sizeOf31 (by omega)) ?_
        refine D_held (F5.v ((fll xs d).getD (xs.length - 1 - d) F5.z)) (by kernel_rfl) (ldF ff5_len (fll xs d) F5.z (xs.length - 1 - d) (0 + (xs.length - 1 - d) * 5) 2 b1 31 rfl (by kernel_rfl) (by omega) (by rw [ill_length]; omega) Tryd.isAgg31 Tryd.sizeOf31 (by kernel_rfl)) ?_
        refine D_v (.iface 31 (F5.v ((fll xs d).getD (xs.length - 1 - d) F5.z))) ?_
        refine D_held (F5.v (flt xs d)) (by kernel_rfl) (ldN [wd ((flt xs d).l0), wd ((flt xs d).l1), wd ((flt xs d).l2), wd ((flt xs d).l3), wd ((flt xs d).l4)] 0 b8 0 [wd ((flt xs d).l0), wd ((flt xs d).l1), wd ((flt xs d).l2), wd ((flt xs d).l3), wd ((flt xs d).l4)] 31 rfl (by kernel_rfl) Tryd.isAgg31 Tryd.sizeOf31 (by kernel_rfl) (by kernel_rfl)) ?_
        refine D_pure (v := F5.v (F5.of (((fll xs d).getD (xs.length - 1 - d) F5.z).val * (flt xs d).val % pp))) (by kernel_rfl) (c_fmul ((fll xs d).getD (xs.length - 1 - d) F5.z) (flt xs d) (fll_ok _ _ _) (flt_ok _ _)) (fun _ => by kernel_rfl) ?_
        refine D_val (.pointer (some ⟨b1, 0 + (xs.length - 1 - d) * 5, none⟩)) (by kernel_rfl) (ixS (k := .i64) b1 0 xs.length xs.length 5 (xs.length - 1 - d) rfl (by kernel_rfl) (by kernel_rfl) Tryd.underlying28 Tryd.sizeOf31 (by omega)) ?_
        refine D_do (by kernel_rfl) (stF (L' := [⟨b8, [wd ((flt xs d).l0), wd ((flt xs d).l1), wd ((flt xs d).l2), wd ((flt xs d).l3), wd ((flt xs d).l4)], 31⟩, ⟨b5, [wd ((fpr xs xs.length).l0), wd ((fpr xs xs.length).l1), wd ((fpr xs xs.length).l2), wd ((fpr xs xs.length).l3), wd ((fpr xs xs.length).l4)], 31⟩, ⟨b1, (((fll xs d).set (xs.length - 1 - d) (F5.of (((fll xs d).getD (xs.length - 1 - d) F5.z).val * (flt xs d).val % pp))).flatMap ff5), 31⟩]) ff5_len ff5_one (fll xs d) (F5.of (((fll xs d).getD (xs.length - 1 - d) F5.z).val * (flt xs d).val % pp)) (xs.length - 1 - d) (0 + (xs.length - 1 - d) * 5) 2 b1 31 rfl (by kernel_rfl) (by kernel_rfl) (by omega) (by rw [ill_length]; omega) Tryd.sizeOf31 (by kernel_rfl) (by kernel_rfl)) ?_
        refine D_nil ?_
        refine E_then ?_
        refine C_drawn [.held, .pure, .pure, .pure, .pure, .held, .held, .eff] (by kernel_rfl) (by kernel_rfl) ?_
        refine D_held (F5.v (flt xs d)) (by kernel_rfl) (ldN [wd ((flt xs d).l0), wd ((flt xs d).l1), wd ((flt xs d).l2), wd ((flt xs d).l3), wd ((flt xs d).l4)] 0 b8 0 [wd ((flt xs d).l0), wd ((flt xs d).l1), wd ((flt xs d).l2), wd ((flt xs d).l3), wd ((flt xs d).l4)] 31 rfl (by kernel_rfl) Tryd.isAgg31 Tryd.sizeOf31 (by kernel_rfl) (by kernel_rfl)) ?_
        refine D_v (.iface 31 (F5.v (flt xs d))) ?_
        refine D_v (.slice (some ⟨bi2, oi3, none⟩) xs.length cap) ?_
        refine D_val (.int .i64 ((xs.length - 1 - d : Nat) : Int)) (by kernel_rfl) (fun _ => fv (v := .int .i64 (((xs.length : Nat) : Int) - 1 - (d : Int))) (vint (by omega)) (by kernel_rfl)) ?_
        refine D_val (.pointer (some ⟨bi2, oi3 + (xs.length - 1 - d) * 5, none⟩)) (by kernel_rfl) (ixS (k := .i64) bi2 oi3 xs.length cap 5 (xs.length - 1 - d) rfl (by kernel_rfl) (by kernel_rfl) Tryd.underlying28 Tryd.sizeOf31 (by omega)) ?_
        refine D_held (F5.v (xs.getD (xs.length - 1 - d) F5.z)) (by kernel_rfl) (ldR ff5_len F5.z (xs.length - 1 - d) bi2 oi3 (oi3 + (xs.length - 1 - d) * 5) hi4 rfl (by kernel_rfl) rfl (by omega) Tryd.isAgg31 Tryd.sizeOf31) ?_
        refine D_pure (v := F5.v (F5.of ((flt xs d).val * (xs.getD (xs.length - 1 - d) F5.z).val % pp))) (by kernel_rfl) (c_fmul (flt xs d) (xs.getD (xs.length - 1 - d) F5.z) (flt_ok _ _) (hxs _)) (fun _ => by kernel_rfl) ?_
        refine D_do (by kernel_rfl) (stN (L' := [⟨b8, [wd ((F5.of ((flt xs d).val * (xs.getD (xs.length - 1 - d) F5.z).val % pp)).l0), wd ((F5.of ((flt xs d).val * (xs.getD (xs.length - 1 - d) F5.z).val % pp)).l1), wd ((F5.of ((flt xs d).val * (xs.getD (xs.length - 1 - d) F5.z).val % pp)).l2), wd ((F5.of ((flt xs d).val * (xs.getD (xs.length - 1 - d) F5.z).val % pp)).l3), wd ((F5.of ((flt xs d).val * (xs.getD (xs.length - 1 - d) F5.z).val % pp)).l4)], 31⟩, ⟨b5, [wd ((fpr xs xs.length).l0), wd ((fpr xs xs.length).l1), wd ((fpr xs xs.length).l2), wd ((fpr xs xs.length).l3), wd ((fpr xs xs.length).l4)], 31⟩, ⟨b1, (((fll xs d).set (xs.length - 1 - d) (F5.of (((fll xs d).getD (xs.length - 1 - d) F5.z).val * (flt xs d).val % pp))).flatMap ff5), 31⟩]) [wd ((F5.of ((flt xs d).val * (xs.getD (xs.length - 1 - d) F5.z).val % pp)).l0), wd ((F5.of ((flt xs d).val * (xs.getD (xs.length - 1 - d) F5.z).val % pp)).l1), wd ((F5.of ((flt xs d).val * (xs.getD (xs.length - 1 - d) F5.z).val % pp)).l2), wd ((F5.of ((flt xs d).val * (xs.getD (xs.length - 1 - d) F5.z).val % pp)).l3), wd ((F5.of ((flt xs d).val * (xs.getD (xs.length - 1 - d) F5.z).val % pp)).l4)] 0 b8 0 [wd ((flt xs d).l0), wd ((flt xs d).l1), wd ((flt xs d).l2), wd ((flt xs d).l3), wd ((flt xs d).l4)] 31 rfl (by kernel_rfl) (by kernel_rfl) Tryd.sizeOf31 (by simp [Value.oneCell']) (by kernel_rfl) (by simp) (by kernel_rfl)) ?_
        refine D_nil ?_
        refine E_inblock ?_
        refine E_then ?_
        refine C_region ?_
        refine S_v (.int .i64 (((xs.length : Nat) : Int) - 1 - (d : Int))) ?_
        refine S_val (.int .i64 (((xs.length : Nat) : Int) - 1 - ((d + 1 : Nat) : Int))) (by kernel_rfl) (fun _ _ => fv (v := .int .i64 (IntKind.i64.wrap ((((xs.length : Nat) : Int) - 1 - (d : Int)) - 1))) (vint (w64 (by omega) (by omega) (by omega))) (by kernel_rfl)) ?_
        refine S_v (.int .i64 (((xs.length : Nat) : Int) - 1 - ((d + 1 : Nat) : Int))) ?_
        refine S_nil ?_
        exact E_norm (fun w hw => ⟨d + 1, by omega, (by kernel_rfl), (by (try dsimp only); omega), Own.eq hw (by (try dsimp only); rw [fll_n hz, flt_n hz])⟩)
    · replace hc := of_decide_eq_false hc
      obtain rfl : d = xs.length := by omega
      refine C_exit ?_
      refine E_pass_exit ?_
      refine E_pass_exit ?_
      refine E_outblock ?_
      refine E_then ?_
      refine C_seq ?_
      refine C_region ?_
      refine S_v (.slice (some ⟨b1, 0, none⟩) xs.length xs.length) ?_
      refine S_v (.slice (some ⟨b1, 0, none⟩) xs.length xs.length) ?_
      refine S_nil ?_
      refine E_then ?_
      refine C_ret ?_
      exact gives_row (mk := (fun v => v)) (Rw.whole' ff5_len b1 (fll xs xs.length) xs.length (by exact ill_length _ _ _ _ _ _ _) (le_maxLen (by omega))) (sub1 2 (by kernel_rfl)) rfl (res1 Tryd.results9 (by kernel_rfl))
end Go.Vk
