/- What functions of the program do: walks, printed by a program of my own. -/
import Derived.Test.YthmlkndmpkcjdaaPairA
set_option linter.unusedVariables false
set_option linter.unusedSimpArgs false
namespace Go.Vk
open Go Go.RowKit Go.Proofs
theorem RdB.own {α : Type} {w0 w : World} {L : List B} {b off sz : Nat} {f : α → List Value} {xs : List α} (h : RdB w0 b off sz f xs) (hO : Own w0 L w) : RdB w b off sz f xs := fun k x hk j u hu => by
  have := h k x hk j u hu
  rw [hO.below.cell (block_lt_of_cell this)]; exact this
theorem c_powers (w0 : World) (x : Int × Int) (n : Nat) (hn : n ≤ 4096) : Gives Try.prog 53 #[.agg #[.int .i64 x.1, .int .i64 x.2], .int .i64 ((n : Nat) : Int)] w0 85 2 n ((pws x n n).flatMap fp) (fun v => .tuple #[v, .int .i64 0]) := by
  unfold Gives
  refine calls_start Try.func53 rfl ?_
  refine C_seq ?_
  refine C_region ?_
  refine S_newv (fun nb0 => .pointer (some ⟨nb0, 0, none⟩)) [.int .i64 x.1, .int .i64 x.2] 85 (by kernel_rfl) (fun w _ => by kernel_rfl) ?_
  intro b1 hb1 Hb1
  refine S_val (.slice none 0 0) (by kernel_rfl) (fun _ _ => by kernel_rfl) ?_
  refine S_val (.int .i64 0) (by kernel_rfl) (fun _ _ => by kernel_rfl) ?_
  refine S_nil ?_
  refine E_then ?_
  refine C_seq ?_
  refine C_seq ?_
  refine C_region ?_
  refine S_val (.int .i64 ((n : Nat) : Int)) (by kernel_rfl) (fun _ _ => by kernel_rfl) ?_
  refine S_val (.bool false) (by kernel_rfl) (fun _ _ => fv (v := .bool (decide (((n : Nat) : Int) < 0))) (vbool (decide_eq_false (by omega))) (by kernel_rfl)) ?_
  refine S_val (.bool false) (by kernel_rfl) (fun _ _ => by kernel_rfl) ?_
  refine S_val (.int .i64 ((n : Nat) : Int)) (by kernel_rfl) (fun _ _ => by kernel_rfl) ?_
  refine S_val (.bool false) (by kernel_rfl) (fun _ _ => fv (v := .bool (decide (((n : Nat) : Int) > 4096))) (vbool (decide_eq_false (by omega))) (by kernel_rfl)) ?_
  refine S_val (.bool false) (by kernel_rfl) (fun _ _ => by kernel_rfl) ?_
  refine S_nil ?_
  refine E_then ?_
  refine C_false (by kernel_rfl) ?_
  refine C_skip ?_
  refine E_then ?_
  refine C_seq ?_
  refine C_region ?_
  refine S_val (.int .i64 ((n : Nat) : Int)) (by kernel_rfl) (fun _ _ => by kernel_rfl) ?_
  refine S_newv (fun nb0 => .slice (some ⟨nb0, 0, none⟩) n n) ((List.replicate n pz).flatMap fp) 85 (by kernel_rfl) (mk (kl := .i64) (kc := .i64) (z := .agg #[.int .i64 0, .int .i64 0]) (i := Try.t85) n n Try.underlying82 (by kernel_rfl) (by kernel_rfl) rfl (by kernel_rfl) (by kernel_rfl) (by omega) (by simp only [Try.t85]; omega) (by omega) ((List.replicate n pz).flatMap fp) (madeF (f := fp) (d := pz) n rfl)) ?_
  intro b2 hb2 Hb2
  refine S_val (.slice (some ⟨b2, 0, none⟩) n n) (by kernel_rfl) (fun _ _ => by kernel_rfl) ?_
  refine S_nil ?_
  refine E_then ?_
  refine C_seq ?_
  refine C_region ?_
  refine S_val (.agg #[.int .i64 x.1, .int .i64 x.2]) (by kernel_rfl) (ldN [.int .i64 x.1, .int .i64 x.2] 1 b1 0 [.int .i64 x.1, .int .i64 x.2] 85 rfl (by kernel_rfl) Try.isAgg85 Try.sizeOf85 (by kernel_rfl) (by kernel_rfl)) ?_
  refine S_val (.iface 85 (.agg #[.int .i64 x.1, .int .i64 x.2])) (by kernel_rfl) (fun _ _ => by kernel_rfl) ?_
  refine S_pure (v := .agg #[.int .i64 1, .int .i64 1]) (by kernel_rfl) (c_pone x) (fun _ => by kernel_rfl) ?_
  refine S_newv (fun nb0 => .pointer (some ⟨nb0, 0, none⟩)) [.int .i64 0, .int .i64 0] 85 (by kernel_rfl) (fun w _ => by kernel_rfl) ?_
  intro b3 hb3 Hb3
  refine S_do (by kernel_rfl) (stN (L' := [⟨b3, [.int .i64 1, .int .i64 1], 85⟩, ⟨b2, ((List.replicate n pz).flatMap fp), 85⟩, ⟨b1, [.int .i64 x.1, .int .i64 x.2], 85⟩]) [.int .i64 1, .int .i64 1] 0 b3 0 [.int .i64 0, .int .i64 0] 85 rfl (by kernel_rfl) (by kernel_rfl) Try.sizeOf85 (by simp [Value.oneCell']) (by kernel_rfl) (by simp) (by kernel_rfl)) ?_
  refine S_nil ?_
  refine E_then ?_
  refine C_seq ?_
  refine C_seq ?_
  refine C_region ?_
  refine S_val (.slice (some ⟨b2, 0, none⟩) n n) (by kernel_rfl) (fun _ _ => by kernel_rfl) ?_
  refine S_val (.int .i64 ((n : Nat) : Int)) (by kernel_rfl) (fun _ _ => by kernel_rfl) ?_
  refine S_val (.int .i64 0) (by kernel_rfl) (fun _ _ => by kernel_rfl) ?_
  refine S_nil ?_
  refine E_then ?_
  refine C_block ?_
  refine C_loop1 (fun (i : Nat) => (i ≤ n)) (fun (i : Nat) => fun g => ⟨#[g 0, g 1, .pointer (some ⟨b1, 0, none⟩), g 3, g 4, g 5, .slice (some ⟨b2, 0, none⟩) n n, .pointer (some ⟨b3, 0, none⟩), g 8, g 9, g 10, g 11, g 12, g 13, g 14, g 15, g 16, g 17, g 18, g 19, g 20, .int .i64 ((n : Nat) : Int), .int .i64 ((i : Nat) : Int), g 23, g 24, g 25, g 26, g 27, g 28, g 29, g 30, g 31, g 32, g 33, g 34], []⟩) (fun (i : Nat) => [⟨b3, [.int .i64 ((pw x i).1), .int .i64 ((pw x i).2)], 85⟩, ⟨b2, ((pws x n i).flatMap fp), 85⟩, ⟨b1, [.int .i64 x.1, .int .i64 x.2], 85⟩]) (fun (i : Nat) => n - i) 0 (by (try dsimp only); exact Nat.zero_le _) (by kernel_rfl) (by first | (dsimp only; done) | ((try dsimp only); kernel_rfl)) ?_
  rintro i g4 hi
  refine C_seq ?_
  refine C_region ?_
  refine S_val (.bool (decide (((i : Nat) : Int) < ((n : Nat) : Int)))) (by kernel_rfl) (fun _ _ => by kernel_rfl) ?_
  refine S_nil ?_
  refine E_then ?_
  refine C_seq ?_
  refine C_if (decide (((i : Nat) : Int) < ((n : Nat) : Int))) (by kernel_rfl) (fun hc => ?_) (fun hc => ?_)
  · replace hc := of_decide_eq_true hc
    refine C_skip ?_
    refine E_then ?_
    refine C_seq ?_
    refine C_block ?_
    refine C_seq ?_
    refine C_region ?_
    refine S_val (.int .i64 ((i : Nat) : Int)) (by kernel_rfl) (fun _ _ => by kernel_rfl) ?_
    refine S_val (.int .i64 ((i : Nat) : Int)) (by kernel_rfl) (fun _ _ => by kernel_rfl) ?_
    refine S_nil ?_
    refine E_then ?_
    refine C_seq ?_
    refine C_region ?_
    refine S_val (.slice (some ⟨b2, 0, none⟩) n n) (by kernel_rfl) (fun _ _ => by kernel_rfl) ?_
    refine S_val (.int .i64 ((i : Nat) : Int)) (by kernel_rfl) (fun _ _ => by kernel_rfl) ?_
    refine S_val (.agg #[.int .i64 ((pw x i).1), .int .i64 ((pw x i).2)]) (by kernel_rfl) (ldN [.int .i64 ((pw x i).1), .int .i64 ((pw x i).2)] 0 b3 0 [.int .i64 ((pw x i).1), .int .i64 ((pw x i).2)] 85 rfl (by kernel_rfl) Try.isAgg85 Try.sizeOf85 (by kernel_rfl) (by kernel_rfl)) ?_
    refine S_val (.pointer (some ⟨b2, 0 + i * 2, none⟩)) (by kernel_rfl) (fun w _ => (ixS (k := .i64) b2 0 n n 2 i rfl (by kernel_rfl) (by kernel_rfl) Try.underlying82 Try.sizeOf85 (by omega)) w) ?_
    refine S_do (by kernel_rfl) (stF (L' := [⟨b3, [.int .i64 ((pw x i).1), .int .i64 ((pw x i).2)], 85⟩, ⟨b2, (((pws x n i).set i (pw x i)).flatMap fp), 85⟩, ⟨b1, [.int .i64 x.1, .int .i64 x.2], 85⟩]) fp_len fp_one (pws x n i) (pw x i) i (0 + i * 2) 1 b2 85 rfl (by kernel_rfl) (by kernel_rfl) (by omega) (by rw [pws_length]; omega) Try.sizeOf85 (by kernel_rfl) (by kernel_rfl)) ?_
    refine S_nil ?_
    refine E_then ?_
    refine C_region ?_
    refine S_val (.agg #[.int .i64 ((pw x i).1), .int .i64 ((pw x i).2)]) (by kernel_rfl) (ldN [.int .i64 ((pw x i).1), .int .i64 ((pw x i).2)] 0 b3 0 [.int .i64 ((pw x i).1), .int .i64 ((pw x i).2)] 85 rfl (by kernel_rfl) Try.isAgg85 Try.sizeOf85 (by kernel_rfl) (by kernel_rfl)) ?_
    refine S_val (.iface 85 (.agg #[.int .i64 ((pw x i).1), .int .i64 ((pw x i).2)])) (by kernel_rfl) (fun _ _ => by kernel_rfl) ?_
    refine S_val (.agg #[.int .i64 x.1, .int .i64 x.2]) (by kernel_rfl) (ldN [.int .i64 x.1, .int .i64 x.2] 2 b1 0 [.int .i64 x.1, .int .i64 x.2] 85 rfl (by kernel_rfl) Try.isAgg85 Try.sizeOf85 (by kernel_rfl) (by kernel_rfl)) ?_
    refine S_pure (v := .agg #[.int .i64 ((pm (pw x i) x).1), .int .i64 ((pm (pw x i) x).2)]) (by kernel_rfl) (c_pmul (pw x i) x) (fun _ => by kernel_rfl) ?_
    refine S_do (by kernel_rfl) (stN (L' := [⟨b3, [.int .i64 ((pm (pw x i) x).1), .int .i64 ((pm (pw x i) x).2)], 85⟩, ⟨b2, (((pws x n i).set i (pw x i)).flatMap fp), 85⟩, ⟨b1, [.int .i64 x.1, .int .i64 x.2], 85⟩]) [.int .i64 ((pm (pw x i) x).1), .int .i64 ((pm (pw x i) x).2)] 0 b3 0 [.int .i64 ((pw x i).1), .int .i64 ((pw x i).2)] 85 rfl (by kernel_rfl) (by kernel_rfl) Try.sizeOf85 (by simp [Value.oneCell']) (by kernel_rfl) (by simp) (by kernel_rfl)) ?_
    refine S_nil ?_
    refine E_inblock ?_
    refine E_then ?_
    refine C_region ?_
    refine S_val (.int .i64 ((i + 1 : Nat) : Int)) (by kernel_rfl) (fun _ _ => fv (v := .int .i64 (IntKind.i64.wrap (((i : Nat) : Int) + 1))) (vint (w64 (by omega) (by omega) (by omega))) (by kernel_rfl)) ?_
    refine S_val (.int .i64 ((i + 1 : Nat) : Int)) (by kernel_rfl) (fun _ _ => by kernel_rfl) ?_
    refine S_nil ?_
    exact E_norm (fun w hw => ⟨i + 1, by omega, (by kernel_rfl), (by (try dsimp only); omega), hw⟩)
  · replace hc := of_decide_eq_false hc
    obtain rfl : n = i := by omega
    refine C_exit ?_
    refine E_pass_exit ?_
    refine E_pass_exit ?_
    refine E_outblock ?_
    refine E_then ?_
    refine C_seq ?_
    refine C_region ?_
    refine S_val (.slice (some ⟨b2, 0, none⟩) n n) (by kernel_rfl) (fun _ _ => by kernel_rfl) ?_
    refine S_val (.slice (some ⟨b2, 0, none⟩) n n) (by kernel_rfl) (fun _ _ => by kernel_rfl) ?_
    refine S_val (.int .i64 0) (by kernel_rfl) (fun _ _ => by kernel_rfl) ?_
    refine S_nil ?_
    refine E_then ?_
    refine C_ret ?_
    exact gives_row (mk := (fun v => .tuple #[v, .int .i64 0])) (Rw.whole' fp_len b2 (pws x n n) n (by exact pws_length _ _ _) (le_maxLen (by omega))) (sub1 1 (by kernel_rfl)) rfl (resM (rs := [.tmp 4, .tmp 5]) Try.results53 [.slice (some ⟨b2, 0, none⟩) n n, .int .i64 0] (by simp) (fun w hO => (.tmp (by kernel_rfl) (.tmp (by kernel_rfl) .nil))))
theorem c_innerp (w0 : World) (v u : Value) (a b : List (Int × Int)) (hv : Rd w0 v 2 fp a) (hu : Rd w0 u 2 fp b) (hab : b.length = a.length) (hl : a.length ≤ 1152921504606846976) : Calls Try.prog 54 #[v, u] w0 fun e w' => e = .returned (.tuple #[.agg #[.int .i64 ((inp a b a.length).1), .int .i64 ((inp a b a.length).2)], .int .i64 0]) ∧ Below w0.heap.size w0 w' := by
  obtain ⟨ao, cap, rfl, hx⟩ := hv.o
  obtain ⟨ao2, cap2, rfl, hy⟩ := hu.o
  refine calls_start Try.func54 rfl ?_
  refine C_seq ?_
  refine C_region ?_
  refine S_newv (fun nb0 => .pointer (some ⟨nb0, 0, none⟩)) [.int .i64 0, .int .i64 0] 85 (by kernel_rfl) (fun w _ => by kernel_rfl) ?_
  intro b1 hb1 Hb1
  refine S_val (.int .i64 0) (by kernel_rfl) (fun _ _ => by kernel_rfl) ?_
  refine S_nil ?_
  refine E_then ?_
  refine C_seq ?_
  refine C_region ?_
  refine S_newv (fun nb0 => .pointer (some ⟨nb0, 0, none⟩)) [.int .i64 0, .int .i64 0] 85 (by kernel_rfl) (fun w _ => by kernel_rfl) ?_
  intro b2 hb2 Hb2
  refine S_nil ?_
  refine E_then ?_
  refine C_seq ?_
  refine C_seq ?_
  refine C_region ?_
  refine S_val (.slice ao a.length cap) (by kernel_rfl) (fun _ _ => by kernel_rfl) ?_
  refine S_val (.int .i64 ((a.length : Nat) : Int)) (by kernel_rfl) (fun _ _ => by kernel_rfl) ?_
  refine S_val (.slice ao2 b.length cap2) (by kernel_rfl) (fun _ _ => by kernel_rfl) ?_
  refine S_val (.int .i64 ((b.length : Nat) : Int)) (by kernel_rfl) (fun _ _ => by kernel_rfl) ?_
  refine S_val (.bool false) (by kernel_rfl) (fun _ _ => fv (v := .bool (((a.length : Nat) : Int) != ((b.length : Nat) : Int))) (vbool (bne_eq_false_iff_eq.2 (by omega))) (by kernel_rfl)) ?_
  refine S_nil ?_
  refine E_then ?_
  refine C_false (by kernel_rfl) ?_
  refine C_skip ?_
  refine E_then ?_
  refine C_seq ?_
  refine C_seq ?_
  refine C_region ?_
  refine S_val (.slice ao a.length cap) (by kernel_rfl) (fun _ _ => by kernel_rfl) ?_
  refine S_val (.int .i64 ((a.length : Nat) : Int)) (by kernel_rfl) (fun _ _ => by kernel_rfl) ?_
  refine S_val (.int .i64 0) (by kernel_rfl) (fun _ _ => by kernel_rfl) ?_
  refine S_nil ?_
  refine E_then ?_
  refine C_block ?_
  refine C_loop1 (fun (i : Nat) => (i ≤ a.length)) (fun (i : Nat) => fun g => ⟨#[g 0, .slice ao2 b.length cap2, g 2, g 3, .pointer (some ⟨b1, 0, none⟩), g 5, .pointer (some ⟨b2, 0, none⟩), g 7, g 8, g 9, g 10, g 11, g 12, g 13, g 14, .slice ao a.length cap, .int .i64 ((a.length : Nat) : Int), .int .i64 ((i : Nat) : Int), g 18, g 19, g 20, g 21, g 22, g 23, g 24, g 25, g 26, g 27, g 28, g 29, g 30, g 31, g 32, g 33], []⟩) (fun (i : Nat) => [⟨b2, [.int .i64 ((inp a b i).1), .int .i64 ((inp a b i).2)], 85⟩, ⟨b1, [.int .i64 0, .int .i64 0], 85⟩]) (fun (i : Nat) => a.length - i) 0 (by (try dsimp only); exact Nat.zero_le _) (by kernel_rfl) (by first | (dsimp only; done) | ((try dsimp only); kernel_rfl)) ?_
  rintro i g3 hi
  refine C_seq ?_
  refine C_region ?_
  refine S_val (.bool (decide (((i : Nat) : Int) < ((a.length : Nat) : Int)))) (by kernel_rfl) (fun _ _ => by kernel_rfl) ?_
  refine S_nil ?_
  refine E_then ?_
  refine C_seq ?_
  refine C_if (decide (((i : Nat) : Int) < ((a.length : Nat) : Int))) (by kernel_rfl) (fun hc => ?_) (fun hc => ?_)
  · replace hc := of_decide_eq_true hc
    obtain ⟨bi4, oi5, rfl, hi6⟩ := hx.op (by omega)
    obtain ⟨bi7, oi8, rfl, hi9⟩ := hy.op (by omega)
    refine C_skip ?_
    refine E_then ?_
    refine C_seq ?_
    refine C_block ?_
    refine C_seq ?_
    refine C_region ?_
    refine S_val (.int .i64 ((i : Nat) : Int)) (by kernel_rfl) (fun _ _ => by kernel_rfl) ?_
    refine S_val (.pointer (some ⟨bi4, oi5 + i * 2, none⟩)) (by kernel_rfl) (fun w _ => (ixS (k := .i64) bi4 oi5 a.length cap 2 i rfl (by kernel_rfl) (by kernel_rfl) Try.underlying82 Try.sizeOf85 (by omega)) w) ?_
    refine S_val (.agg #[.int .i64 ((a.getD i pz).1), .int .i64 ((a.getD i pz).2)]) (by kernel_rfl) (ldR fp_len pz i bi4 oi5 (oi5 + i * 2) hi6 rfl (by kernel_rfl) rfl (by omega) Try.isAgg85 Try.sizeOf85) ?_
    refine S_newv (fun nb0 => .pointer (some ⟨nb0, 0, none⟩)) [.int .i64 0, .int .i64 0] 85 (by kernel_rfl) (fun w _ => by kernel_rfl) ?_
    intro b10 hb10 Hb10
    refine S_val (.int .i64 ((i : Nat) : Int)) (by kernel_rfl) (fun _ _ => by kernel_rfl) ?_
    refine S_do (by kernel_rfl) (stN (L' := [⟨b10, [.int .i64 ((a.getD i pz).1), .int .i64 ((a.getD i pz).2)], 85⟩, ⟨b2, [.int .i64 ((inp a b i).1), .int .i64 ((inp a b i).2)], 85⟩, ⟨b1, [.int .i64 0, .int .i64 0], 85⟩]) [.int .i64 ((a.getD i pz).1), .int .i64 ((a.getD i pz).2)] 0 b10 0 [.int .i64 0, .int .i64 0] 85 rfl (by kernel_rfl) (by kernel_rfl) Try.sizeOf85 (by simp [Value.oneCell']) (by kernel_rfl) (by simp) (by kernel_rfl)) ?_
    refine S_nil ?_
    refine E_then ?_
    refine C_drawn [.held, .pure, .held, .pure, .pure, .pure, .pure, .held, .held, .held, .eff] (by kernel_rfl) (by kernel_rfl) ?_
    refine D_held (.agg #[.int .i64 ((inp a b i).1), .int .i64 ((inp a b i).2)]) (by kernel_rfl) (ldN [.int .i64 ((inp a b i).1), .int .i64 ((inp a b i).2)] 1 b2 0 [.int .i64 ((inp a b i).1), .int .i64 ((inp a b i).2)] 85 rfl (by kernel_rfl) Try.isAgg85 Try.sizeOf85 (by kernel_rfl) (by kernel_rfl)) ?_
    refine D_val (.iface 85 (.agg #[.int .i64 ((inp a b i).1), .int .i64 ((inp a b i).2)])) (by kernel_rfl) (fun _ => by kernel_rfl) ?_
    refine D_held (.agg #[.int .i64 ((a.getD i pz).1), .int .i64 ((a.getD i pz).2)]) (by kernel_rfl) (ldN [.int .i64 ((a.getD i pz).1), .int .i64 ((a.getD i pz).2)] 0 b10 0 [.int .i64 ((a.getD i pz).1), .int .i64 ((a.getD i pz).2)] 85 rfl (by kernel_rfl) Try.isAgg85 Try.sizeOf85 (by kernel_rfl) (by kernel_rfl)) ?_
    refine D_val (.iface 85 (.agg #[.int .i64 ((a.getD i pz).1), .int .i64 ((a.getD i pz).2)])) (by kernel_rfl) (fun _ => by kernel_rfl) ?_
    refine D_val (.slice (some ⟨bi7, oi8, none⟩) b.length cap2) (by kernel_rfl) (fun _ => by kernel_rfl) ?_
    refine D_val (.int .i64 ((i : Nat) : Int)) (by kernel_rfl) (fun _ => by kernel_rfl) ?_
    refine D_val (.pointer (some ⟨bi7, oi8 + i * 2, none⟩)) (by kernel_rfl) (ixS (k := .i64) bi7 oi8 b.length cap2 2 i rfl (by kernel_rfl) (by kernel_rfl) Try.underlying82 Try.sizeOf85 (by omega)) ?_
    refine D_held (.agg #[.int .i64 ((b.getD i pz).1), .int .i64 ((b.getD i pz).2)]) (by kernel_rfl) (ldR fp_len pz i bi7 oi8 (oi8 + i * 2) hi9 rfl (by kernel_rfl) rfl (by omega) Try.isAgg85 Try.sizeOf85) ?_
    refine D_pure (v := .agg #[.int .i64 ((pm (a.getD i pz) (b.getD i pz)).1), .int .i64 ((pm (a.getD i pz) (b.getD i pz)).2)]) (by kernel_rfl) (c_pmul (a.getD i pz) (b.getD i pz)) (fun _ => by kernel_rfl) ?_
    refine D_pure (v := .agg #[.int .i64 ((pa (inp a b i) (pm (a.getD i pz) (b.getD i pz))).1), .int .i64 ((pa (inp a b i) (pm (a.getD i pz) (b.getD i pz))).2)]) (by kernel_rfl) (c_padd (inp a b i) (pm (a.getD i pz) (b.getD i pz))) (fun _ => by kernel_rfl) ?_
    refine D_do (by kernel_rfl) (stN (L' := [⟨b10, [.int .i64 ((a.getD i pz).1), .int .i64 ((a.getD i pz).2)], 85⟩, ⟨b2, [.int .i64 ((pa (inp a b i) (pm (a.getD i pz) (b.getD i pz))).1), .int .i64 ((pa (inp a b i) (pm (a.getD i pz) (b.getD i pz))).2)], 85⟩, ⟨b1, [.int .i64 0, .int .i64 0], 85⟩]) [.int .i64 ((pa (inp a b i) (pm (a.getD i pz) (b.getD i pz))).1), .int .i64 ((pa (inp a b i) (pm (a.getD i pz) (b.getD i pz))).2)] 1 b2 0 [.int .i64 ((inp a b i).1), .int .i64 ((inp a b i).2)] 85 rfl (by kernel_rfl) (by kernel_rfl) Try.sizeOf85 (by simp [Value.oneCell']) (by kernel_rfl) (by simp) (by kernel_rfl)) ?_
    refine D_nil ?_
    refine E_inblock ?_
    refine E_then ?_
    refine C_region ?_
    refine S_val (.int .i64 ((i + 1 : Nat) : Int)) (by kernel_rfl) (fun _ _ => fv (v := .int .i64 (IntKind.i64.wrap (((i : Nat) : Int) + 1))) (vint (w64 (by omega) (by omega) (by omega))) (by kernel_rfl)) ?_
    refine S_val (.int .i64 ((i + 1 : Nat) : Int)) (by kernel_rfl) (fun _ _ => by kernel_rfl) ?_
    refine S_nil ?_
    exact E_norm (fun w hw => ⟨i + 1, by omega, (by kernel_rfl), (by (try dsimp only); omega), hw.tail⟩)
  · replace hc := of_decide_eq_false hc
    obtain rfl : i = a.length := by omega
    refine C_exit ?_
    refine E_pass_exit ?_
    refine E_pass_exit ?_
    refine E_outblock ?_
    refine E_then ?_
    refine C_seq ?_
    refine C_region ?_
    refine S_val (.agg #[.int .i64 ((inp a b a.length).1), .int .i64 ((inp a b a.length).2)]) (by kernel_rfl) (ldN [.int .i64 ((inp a b a.length).1), .int .i64 ((inp a b a.length).2)] 0 b2 0 [.int .i64 ((inp a b a.length).1), .int .i64 ((inp a b a.length).2)] 85 rfl (by kernel_rfl) Try.isAgg85 Try.sizeOf85 (by kernel_rfl) (by kernel_rfl)) ?_
    refine S_do (by kernel_rfl) (stN (L' := [⟨b2, [.int .i64 ((inp a b a.length).1), .int .i64 ((inp a b a.length).2)], 85⟩, ⟨b1, [.int .i64 ((inp a b a.length).1), .int .i64 ((inp a b a.length).2)], 85⟩]) [.int .i64 ((inp a b a.length).1), .int .i64 ((inp a b a.length).2)] 1 b1 0 [.int .i64 0, .int .i64 0] 85 rfl (by kernel_rfl) (by kernel_rfl) Try.sizeOf85 (by simp [Value.oneCell']) (by kernel_rfl) (by simp) (by kernel_rfl)) ?_
    refine S_val (.int .i64 0) (by kernel_rfl) (fun _ _ => by kernel_rfl) ?_
    refine S_nil ?_
    refine E_then ?_
    refine C_ret ?_
    exact pure_ret rfl (resM (rs := [.cell 4 85, .tmp 5]) Try.results54 [.agg #[.int .i64 ((inp a b a.length).1), .int .i64 ((inp a b a.length).2)], .int .i64 0] (by simp) (fun w hO => (.cell (by kernel_rfl) (resCell hO [.int .i64 ((inp a b a.length).1), .int .i64 ((inp a b a.length).2)] 1 b1 85 Try.isAgg85 Try.sizeOf85 (by kernel_rfl)) (.tmp (by kernel_rfl) .nil))))
theorem c_mix1 (w0 : World) (xb yb : Nat) (x y s t : Int × Int) (hx : RdB w0 xb 0 2 fp [x]) (hy : RdB w0 yb 0 2 fp [y]) : Calls Try.prog 83 #[.agg #[.int .i64 s.1, .int .i64 s.2], .agg #[.int .i64 t.1, .int .i64 t.2], .pointer (some ⟨xb, 0, none⟩), .pointer (some ⟨yb, 0, none⟩)] w0 fun e w' => e = .returned (.agg #[.int .i64 ((pa (pm x s) (pm y t)).1), .int .i64 ((pa (pm x s) (pm y t)).2)]) ∧ Below w0.heap.size w0 w' := by
  refine calls_start Try.func83 rfl ?_
  refine C_seq ?_
  refine C_region ?_
  refine S_newv (fun nb0 => .pointer (some ⟨nb0, 0, none⟩)) [.int .i64 s.1, .int .i64 s.2] 85 (by kernel_rfl) (fun w _ => by kernel_rfl) ?_
  intro b1 hb1 Hb1
  refine S_newv (fun nb0 => .pointer (some ⟨nb0, 0, none⟩)) [.int .i64 t.1, .int .i64 t.2] 85 (by kernel_rfl) (fun w _ => by kernel_rfl) ?_
  intro b2 hb2 Hb2
  refine S_newv (fun nb0 => .pointer (some ⟨nb0, 0, none⟩)) [.int .i64 0, .int .i64 0] 85 (by kernel_rfl) (fun w _ => by kernel_rfl) ?_
  intro b3 hb3 Hb3
  refine S_nil ?_
  refine E_then ?_
  refine C_seq ?_
  refine C_drawn [.held, .pure, .held, .held, .pure, .held, .pure, .held, .held, .held, .eff] (by kernel_rfl) (by kernel_rfl) ?_
  refine D_held (.agg #[.int .i64 (([x].getD 0 pz).1), .int .i64 (([x].getD 0 pz).2)]) (by kernel_rfl) (ldR fp_len pz 0 xb 0 0 hx rfl (by kernel_rfl) rfl (by simp) Try.isAgg85 Try.sizeOf85) ?_
  refine D_val (.iface 85 (.agg #[.int .i64 (([x].getD 0 pz).1), .int .i64 (([x].getD 0 pz).2)])) (by kernel_rfl) (fun _ => by kernel_rfl) ?_
  refine D_held (.agg #[.int .i64 s.1, .int .i64 s.2]) (by kernel_rfl) (ldN [.int .i64 s.1, .int .i64 s.2] 2 b1 0 [.int .i64 s.1, .int .i64 s.2] 85 rfl (by kernel_rfl) Try.isAgg85 Try.sizeOf85 (by kernel_rfl) (by kernel_rfl)) ?_
  refine D_pure (v := .agg #[.int .i64 ((pm ([x].getD 0 pz) s).1), .int .i64 ((pm ([x].getD 0 pz) s).2)]) (by kernel_rfl) (c_pmul ([x].getD 0 pz) s) (fun _ => by kernel_rfl) ?_
  refine D_val (.iface 85 (.agg #[.int .i64 ((pm ([x].getD 0 pz) s).1), .int .i64 ((pm ([x].getD 0 pz) s).2)])) (by kernel_rfl) (fun _ => by kernel_rfl) ?_
  refine D_held (.agg #[.int .i64 (([y].getD 0 pz).1), .int .i64 (([y].getD 0 pz).2)]) (by kernel_rfl) (ldR fp_len pz 0 yb 0 0 hy rfl (by kernel_rfl) rfl (by simp) Try.isAgg85 Try.sizeOf85) ?_
  refine D_val (.iface 85 (.agg #[.int .i64 (([y].getD 0 pz).1), .int .i64 (([y].getD 0 pz).2)])) (by kernel_rfl) (fun _ => by kernel_rfl) ?_
  refine D_held (.agg #[.int .i64 t.1, .int .i64 t.2]) (by kernel_rfl) (ldN [.int .i64 t.1, .int .i64 t.2] 1 b2 0 [.int .i64 t.1, .int .i64 t.2] 85 rfl (by kernel_rfl) Try.isAgg85 Try.sizeOf85 (by kernel_rfl) (by kernel_rfl)) ?_
  refine D_pure (v := .agg #[.int .i64 ((pm ([y].getD 0 pz) t).1), .int .i64 ((pm ([y].getD 0 pz) t).2)]) (by kernel_rfl) (c_pmul ([y].getD 0 pz) t) (fun _ => by kernel_rfl) ?_
  refine D_pure (v := .agg #[.int .i64 ((pa (pm ([x].getD 0 pz) s) (pm ([y].getD 0 pz) t)).1), .int .i64 ((pa (pm ([x].getD 0 pz) s) (pm ([y].getD 0 pz) t)).2)]) (by kernel_rfl) (c_padd (pm ([x].getD 0 pz) s) (pm ([y].getD 0 pz) t)) (fun _ => by kernel_rfl) ?_
  refine D_do (by kernel_rfl) (stN (L' := [⟨b3, [.int .i64 ((pa (pm ([x].getD 0 pz) s) (pm ([y].getD 0 pz) t)).1), .int .i64 ((pa (pm ([x].getD 0 pz) s) (pm ([y].getD 0 pz) t)).2)], 85⟩, ⟨b2, [.int .i64 t.1, .int .i64 t.2], 85⟩, ⟨b1, [.int .i64 s.1, .int .i64 s.2], 85⟩]) [.int .i64 ((pa (pm ([x].getD 0 pz) s) (pm ([y].getD 0 pz) t)).1), .int .i64 ((pa (pm ([x].getD 0 pz) s) (pm ([y].getD 0 pz) t)).2)] 0 b3 0 [.int .i64 0, .int .i64 0] 85 rfl (by kernel_rfl) (by kernel_rfl) Try.sizeOf85 (by simp [Value.oneCell']) (by kernel_rfl) (by simp) (by kernel_rfl)) ?_
  refine D_nil ?_
  refine E_then ?_
  refine C_ret ?_
  exact pure_ret rfl (resC Try.results83 [.int .i64 ((pa (pm ([x].getD 0 pz) s) (pm ([y].getD 0 pz) t)).1), .int .i64 ((pa (pm ([x].getD 0 pz) s) (pm ([y].getD 0 pz) t)).2)] 0 b3 85 (by kernel_rfl) Try.isAgg85 Try.sizeOf85 (by kernel_rfl))
theorem c_mixpairs (w0 : World) (v u : Value) (xb yb : Nat) (x y : Int × Int) (a b : List (Int × Int)) (hv : Rd w0 v 2 fp a) (hu : Rd w0 u 2 fp b) (hab : b.length = a.length) (hl : a.length ≤ 1099511627776) (hX : RdB w0 xb 0 2 fp [x]) (hY : RdB w0 yb 0 2 fp [y]) : Gives Try.prog 82 #[v, u, .func (.func 83) #[] #[.pointer (some ⟨xb, 0, none⟩), .pointer (some ⟨yb, 0, none⟩)]] w0 85 2 a.length ((mxs x a y b a.length).flatMap fp) (fun v => .tuple #[v, .int .i64 0]) := by
  obtain ⟨ao, cap, rfl, hx⟩ := hv.o
  obtain ⟨ao2, cap2, rfl, hy⟩ := hu.o
  unfold Gives
  refine calls_start Try.func82 rfl ?_
  refine C_seq ?_
  refine C_region ?_
  refine S_val (.slice none 0 0) (by kernel_rfl) (fun _ _ => by kernel_rfl) ?_
  refine S_val (.int .i64 0) (by kernel_rfl) (fun _ _ => by kernel_rfl) ?_
  refine S_nil ?_
  refine E_then ?_
  refine C_seq ?_
  refine C_seq ?_
  refine C_region ?_
  refine S_val (.slice ao a.length cap) (by kernel_rfl) (fun _ _ => by kernel_rfl) ?_
  refine S_val (.int .i64 ((a.length : Nat) : Int)) (by kernel_rfl) (fun _ _ => by kernel_rfl) ?_
  refine S_val (.slice ao2 b.length cap2) (by kernel_rfl) (fun _ _ => by kernel_rfl) ?_
  refine S_val (.int .i64 ((b.length : Nat) : Int)) (by kernel_rfl) (fun _ _ => by kernel_rfl) ?_
  refine S_val (.bool false) (by kernel_rfl) (fun _ _ => fv (v := .bool (((a.length : Nat) : Int) != ((b.length : Nat) : Int))) (vbool (bne_eq_false_iff_eq.2 (by omega))) (by kernel_rfl)) ?_
  refine S_nil ?_
  refine E_then ?_
  refine C_false (by kernel_rfl) ?_
  refine C_skip ?_
  refine E_then ?_
  refine C_seq ?_
  refine C_region ?_
  refine S_val (.slice ao a.length cap) (by kernel_rfl) (fun _ _ => by kernel_rfl) ?_
  refine S_val (.int .i64 ((a.length : Nat) : Int)) (by kernel_rfl) (fun _ _ => by kernel_rfl) ?_
  refine S_newv (fun nb0 => .slice (some ⟨nb0, 0, none⟩) a.length a.length) ((List.replicate a.length pz).flatMap fp) 85 (by kernel_rfl) (mk (kl := .i64) (kc := .i64) (z := .agg #[.int .i64 0, .int .i64 0]) (i := Try.t85) a.length a.length Try.underlying82 (by kernel_rfl) (by kernel_rfl) rfl (by kernel_rfl) (by kernel_rfl) (by omega) (by simp only [Try.t85]; omega) (by omega) ((List.replicate a.length pz).flatMap fp) (madeF (f := fp) (d := pz) a.length rfl)) ?_
  intro b1 hb1 Hb1
  refine S_val (.slice (some ⟨b1, 0, none⟩) a.length a.length) (by kernel_rfl) (fun _ _ => by kernel_rfl) ?_
  refine S_nil ?_
  refine E_then ?_
  refine C_seq ?_
  refine C_seq ?_
  refine C_region ?_
  refine S_val (.slice (some ⟨b1, 0, none⟩) a.length a.length) (by kernel_rfl) (fun _ _ => by kernel_rfl) ?_
  refine S_val (.int .i64 ((a.length : Nat) : Int)) (by kernel_rfl) (fun _ _ => by kernel_rfl) ?_
  refine S_val (.int .i64 0) (by kernel_rfl) (fun _ _ => by kernel_rfl) ?_
  refine S_nil ?_
  refine E_then ?_
  refine C_block ?_
  refine C_loop1 (fun (i : Nat) => (i ≤ a.length)) (fun (i : Nat) => fun g => ⟨#[.slice ao a.length cap, .slice ao2 b.length cap2, .func (.func 83) #[] #[.pointer (some ⟨xb, 0, none⟩), .pointer (some ⟨yb, 0, none⟩)], g 3, g 4, g 5, g 6, g 7, .slice (some ⟨b1, 0, none⟩) a.length a.length, g 9, g 10, g 11, g 12, g 13, g 14, g 15, g 16, g 17, g 18, .int .i64 ((a.length : Nat) : Int), .int .i64 ((i : Nat) : Int), g 21, g 22, g 23, g 24, g 25, g 26, g 27, g 28, g 29, g 30, g 31, g 32, g 33, g 34, g 35, g 36, g 37], []⟩) (fun (i : Nat) => [⟨b1, ((mxs x a y b i).flatMap fp), 85⟩]) (fun (i : Nat) => a.length - i) 0 (by (try dsimp only); exact Nat.zero_le _) (by kernel_rfl) (by first | (dsimp only; done) | ((try dsimp only); kernel_rfl)) ?_
  rintro i g2 hi
  refine C_seq ?_
  refine C_region ?_
  refine S_val (.bool (decide (((i : Nat) : Int) < ((a.length : Nat) : Int)))) (by kernel_rfl) (fun _ _ => by kernel_rfl) ?_
  refine S_nil ?_
  refine E_then ?_
  refine C_seq ?_
  refine C_if (decide (((i : Nat) : Int) < ((a.length : Nat) : Int))) (by kernel_rfl) (fun hc => ?_) (fun hc => ?_)
  · replace hc := of_decide_eq_true hc
    obtain ⟨bi3, oi4, rfl, hi5⟩ := hx.op (by omega)
    obtain ⟨bi6, oi7, rfl, hi8⟩ := hy.op (by omega)
    refine C_skip ?_
    refine E_then ?_
    refine C_seq ?_
    refine C_block ?_
    refine C_seq ?_
    refine C_region ?_
    refine S_val (.int .i64 ((i : Nat) : Int)) (by kernel_rfl) (fun _ _ => by kernel_rfl) ?_
    refine S_val (.int .i64 ((i : Nat) : Int)) (by kernel_rfl) (fun _ _ => by kernel_rfl) ?_
    refine S_nil ?_
    refine E_then ?_
    refine C_drawn [.pure, .pure, .pure, .pure, .pure, .pure, .held, .pure, .pure, .pure, .held, .held, .pure, .eff] (by kernel_rfl) (by kernel_rfl) ?_
    refine D_val (.slice (some ⟨b1, 0, none⟩) a.length a.length) (by kernel_rfl) (fun _ => by kernel_rfl) ?_
    refine D_val (.int .i64 ((i : Nat) : Int)) (by kernel_rfl) (fun _ => by kernel_rfl) ?_
    refine D_val (.func (.func 83) #[] #[.pointer (some ⟨xb, 0, none⟩), .pointer (some ⟨yb, 0, none⟩)]) (by kernel_rfl) (fun _ => by kernel_rfl) ?_
    refine D_val (.slice (some ⟨bi3, oi4, none⟩) a.length cap) (by kernel_rfl) (fun _ => by kernel_rfl) ?_
    refine D_val (.int .i64 ((i : Nat) : Int)) (by kernel_rfl) (fun _ => by kernel_rfl) ?_
    refine D_val (.pointer (some ⟨bi3, oi4 + i * 2, none⟩)) (by kernel_rfl) (ixS (k := .i64) bi3 oi4 a.length cap 2 i rfl (by kernel_rfl) (by kernel_rfl) Try.underlying82 Try.sizeOf85 (by omega)) ?_
    refine D_held (.agg #[.int .i64 ((a.getD i pz).1), .int .i64 ((a.getD i pz).2)]) (by kernel_rfl) (ldR fp_len pz i bi3 oi4 (oi4 + i * 2) hi5 rfl (by kernel_rfl) rfl (by omega) Try.isAgg85 Try.sizeOf85) ?_
    refine D_val (.slice (some ⟨bi6, oi7, none⟩) b.length cap2) (by kernel_rfl) (fun _ => by kernel_rfl) ?_
    refine D_val (.int .i64 ((i : Nat) : Int)) (by kernel_rfl) (fun _ => by kernel_rfl) ?_
    refine D_val (.pointer (some ⟨bi6, oi7 + i * 2, none⟩)) (by kernel_rfl) (ixS (k := .i64) bi6 oi7 b.length cap2 2 i rfl (by kernel_rfl) (by kernel_rfl) Try.underlying82 Try.sizeOf85 (by omega)) ?_
    refine D_held (.agg #[.int .i64 ((b.getD i pz).1), .int .i64 ((b.getD i pz).2)]) (by kernel_rfl) (ldR fp_len pz i bi6 oi7 (oi7 + i * 2) hi8 rfl (by kernel_rfl) rfl (by omega) Try.isAgg85 Try.sizeOf85) ?_
    refine D_call (.agg #[.int .i64 ((pa (pm x (a.getD i pz)) (pm y (b.getD i pz))).1), .int .i64 ((pa (pm x (a.getD i pz)) (pm y (b.getD i pz))).2)]) (by kernel_rfl) (fun _ _ => by kernel_rfl) (fun w hO => (c_mix1 w xb yb x y (a.getD i pz) (b.getD i pz) (hX.own hO) (hY.own hO))) ?_
    refine D_val (.pointer (some ⟨b1, 0 + i * 2, none⟩)) (by kernel_rfl) (ixS (k := .i64) b1 0 a.length a.length 2 i rfl (by kernel_rfl) (by kernel_rfl) Try.underlying82 Try.sizeOf85 (by omega)) ?_
    refine D_do (by kernel_rfl) (stF (L' := [⟨b1, (((mxs x a y b i).set i (pa (pm x (a.getD i pz)) (pm y (b.getD i pz)))).flatMap fp), 85⟩]) fp_len fp_one (mxs x a y b i) (pa (pm x (a.getD i pz)) (pm y (b.getD i pz))) i (0 + i * 2) 0 b1 85 rfl (by kernel_rfl) (by kernel_rfl) (by omega) (by rw [mxs_length]; omega) Try.sizeOf85 (by kernel_rfl) (by kernel_rfl)) ?_
    refine D_nil ?_
    refine E_inblock ?_
    refine E_then ?_
    refine C_region ?_
    refine S_val (.int .i64 ((i + 1 : Nat) : Int)) (by kernel_rfl) (fun _ _ => fv (v := .int .i64 (IntKind.i64.wrap (((i : Nat) : Int) + 1))) (vint (w64 (by omega) (by omega) (by omega))) (by kernel_rfl)) ?_
    refine S_val (.int .i64 ((i + 1 : Nat) : Int)) (by kernel_rfl) (fun _ _ => by kernel_rfl) ?_
    refine S_nil ?_
    exact E_norm (fun w hw => ⟨i + 1, by omega, (by kernel_rfl), (by (try dsimp only); omega), hw⟩)
  · replace hc := of_decide_eq_false hc
    obtain rfl : i = a.length := by omega
    refine C_exit ?_
    refine E_pass_exit ?_
    refine E_pass_exit ?_
    refine E_outblock ?_
    refine E_then ?_
    refine C_seq ?_
    refine C_region ?_
    refine S_val (.slice (some ⟨b1, 0, none⟩) a.length a.length) (by kernel_rfl) (fun _ _ => by kernel_rfl) ?_
    refine S_val (.slice (some ⟨b1, 0, none⟩) a.length a.length) (by kernel_rfl) (fun _ _ => by kernel_rfl) ?_
    refine S_val (.int .i64 0) (by kernel_rfl) (fun _ _ => by kernel_rfl) ?_
    refine S_nil ?_
    refine E_then ?_
    refine C_ret ?_
    exact gives_row (mk := (fun v => .tuple #[v, .int .i64 0])) (Rw.whole' fp_len b1 (mxs x a y b a.length) a.length (by exact mxs_length _ _ _ _ _) (le_maxLen (by omega))) (sub1 0 (by kernel_rfl)) rfl (resM (rs := [.tmp 6, .tmp 7]) Try.results82 [.slice (some ⟨b1, 0, none⟩) a.length a.length, .int .i64 0] (by simp) (fun w hO => (.tmp (by kernel_rfl) (.tmp (by kernel_rfl) .nil))))
theorem c_mix (w0 : World) (v u : Value) (x y : Int × Int) (a b : List (Int × Int)) (hv : Rd w0 v 2 fp a) (hu : Rd w0 u 2 fp b) (hab : b.length = a.length) (hl : a.length ≤ 1099511627776) : Gives Try.prog 55 #[.agg #[.int .i64 x.1, .int .i64 x.2], v, .agg #[.int .i64 y.1, .int .i64 y.2], u] w0 85 2 a.length ((mxs x a y b a.length).flatMap fp) (fun v => .tuple #[v, .int .i64 0]) := by
  unfold Gives
  refine calls_start Try.func55 rfl ?_
  refine C_seq ?_
  refine C_region ?_
  refine S_newv (fun nb0 => .pointer (some ⟨nb0, 0, none⟩)) [.int .i64 x.1, .int .i64 x.2] 85 (by kernel_rfl) (fun w _ => by kernel_rfl) ?_
  intro b1 hb1 Hb1
  refine S_newv (fun nb0 => .pointer (some ⟨nb0, 0, none⟩)) [.int .i64 y.1, .int .i64 y.2] 85 (by kernel_rfl) (fun w _ => by kernel_rfl) ?_
  intro b2 hb2 Hb2
  refine S_val (.slice none 0 0) (by kernel_rfl) (fun _ _ => by kernel_rfl) ?_
  refine S_val (.int .i64 0) (by kernel_rfl) (fun _ _ => by kernel_rfl) ?_
  refine S_nil ?_
  refine E_then ?_
  refine C_seq ?_
  refine C_region ?_
  refine S_val (v) (by kernel_rfl) (fun _ _ => by kernel_rfl) ?_
  refine S_val (u) (by kernel_rfl) (fun _ _ => by kernel_rfl) ?_
  refine S_val (.func (.func 83) #[] #[.pointer (some ⟨b1, 0, none⟩), .pointer (some ⟨b2, 0, none⟩)]) (by kernel_rfl) (fun _ _ => by kernel_rfl) ?_
  refine S_gives (mk := fun v0 => .tuple #[v0, .int .i64 0]) (by kernel_rfl) (fun _ _ => by kernel_rfl) (fun w hO => (c_mixpairs w v u b1 b2 x y a b (hv.own hO) (hu.own hO) hab hl (hO.rdB' (f := fp) 1 fp_len [x] rfl) (hO.rdB' (f := fp) 0 fp_len [y] rfl))) ?_
  intro v3 ob4 hr5
  refine S_val (v3) (by kernel_rfl) (fun _ _ => by kernel_rfl) ?_
  refine S_val (.int .i64 0) (by kernel_rfl) (fun _ _ => by kernel_rfl) ?_
  refine S_val (v3) (by kernel_rfl) (fun _ _ => by kernel_rfl) ?_
  refine S_val (.int .i64 0) (by kernel_rfl) (fun _ _ => by kernel_rfl) ?_
  refine S_nil ?_
  refine E_then ?_
  refine C_ret ?_
  exact gives_row (mk := (fun v => .tuple #[v, .int .i64 0])) hr5 (List.sublist_append_right _ _) rfl (resM (rs := [.tmp 8, .tmp 9]) Try.results55 [v3, .int .i64 0] (by simp) (fun w hO => (.tmp (by kernel_rfl) (.tmp (by kernel_rfl) .nil))))
end Go.Vk
