/- What functions of the program do: walks, printed by a program of my own. -/
import Derived.Test.YtalnkpdahpjmmaaDoorDIn
import Derived.Test.YtalnkpdahpjmmaaDoorBothP
import Derived.Test.YtalnkpdahpjmmaaDoorSevenG
set_option linter.unusedVariables false
set_option linter.unusedSimpArgs false
namespace Go.Vk
open Go Go.RowKit Go.Proofs Go.Vk.Num
set_option linter.unusedVariables false
theorem c_cut_t (ao : Option Addr) (n cap : Nat) (hc : n ≤ cap) (h : 40 < n) : Pure Tryd.prog 7 #[.slice ao n cap] (.slice ao 40 cap) := by
  refine pure_of Tryd.func7 rfl (fun w0 => ?_)
  refine C_seq ?_
  refine C_region ?_
  refine S_v (.slice none 0 0) ?_
  refine S_nil ?_
  refine E_then ?_
  refine C_seq ?_
  refine C_seq ?_
  refine C_region ?_
  refine S_v (.slice ao n cap) ?_
  refine S_v (.int .i64 ((n : Nat) : Int)) ?_
  refine S_val (.bool true) (by kernel_rfl) (fun _ _ => fv (v := .bool (decide (((n : Nat) : Int) > 40))) (vbool (decide_eq_true (by omega))) (by kernel_rfl)) ?_
  refine S_nil ?_
  refine E_then ?_
  refine C_true (by kernel_rfl) ?_
  refine C_seq ?_
  refine C_region ?_
  refine S_v (.slice ao n cap) ?_
  refine S_val (.slice ao 40 cap) (by kernel_rfl) (fun w _ => sl0 (h := 40) (len := n) (k := .i64) Tryd.underlying22 Tryd.sizeOf33 rfl (by kernel_rfl) (by kernel_rfl) (by omega) (by omega) w) ?_
  refine S_v (.slice ao 40 cap) ?_
  refine S_nil ?_
  refine E_then ?_
  refine C_ret ?_
  refine E_pass_ret ?_
  exact pure_ret rfl (res1 Tryd.results7 (by kernel_rfl))
theorem c_cut_f (ao : Option Addr) (n cap : Nat) (hc : n ≤ cap) (h : n ≤ 40) : Pure Tryd.prog 7 #[.slice ao n cap] (.slice ao n cap) := by
  refine pure_of Tryd.func7 rfl (fun w0 => ?_)
  refine C_seq ?_
  refine C_region ?_
  refine S_v (.slice none 0 0) ?_
  refine S_nil ?_
  refine E_then ?_
  refine C_seq ?_
  refine C_seq ?_
  refine C_region ?_
  refine S_v (.slice ao n cap) ?_
  refine S_v (.int .i64 ((n : Nat) : Int)) ?_
  refine S_val (.bool false) (by kernel_rfl) (fun _ _ => fv (v := .bool (decide (((n : Nat) : Int) > 40))) (vbool (decide_eq_false (by omega))) (by kernel_rfl)) ?_
  refine S_nil ?_
  refine E_then ?_
  refine C_false (by kernel_rfl) ?_
  refine C_skip ?_
  refine E_then ?_
  refine C_seq ?_
  refine C_region ?_
  refine S_v (.slice ao n cap) ?_
  refine S_v (.slice ao n cap) ?_
  refine S_nil ?_
  refine E_then ?_
  refine C_ret ?_
  exact pure_ret rfl (res1 Tryd.results7 (by kernel_rfl))
theorem rd_take {α : Type} {w : World} {ao : Option Addr} {cap sz m : Nat} {f : α → List Value} {xs : List α} (h : Rd w (.slice ao xs.length cap) sz f xs) (hm : m ≤ xs.length) : Rd w (.slice ao m cap) sz f (xs.take m) := by
  obtain ⟨ao', cap', e, h⟩ := h
  injection e with e1 e2 e3
  subst e1
  refine ⟨ao, cap, by rw [List.length_take, Nat.min_eq_left hm], fun k x hk => h k x ?_⟩
  rw [List.getElem?_take] at hk
  split at hk
  · exact hk
  · cases hk
theorem c_cut (v : Value) (n : Nat) (hv : ∃ ao cap, v = .slice ao n cap ∧ n ≤ cap) : ∃ v', Pure Tryd.prog 7 #[v] v' ∧ ∀ (w : World) (xs : List Nat), xs.length = n → Rd w v 4 fs4 xs → Rd w v' 4 fs4 (xs.take 40) := by
  obtain ⟨ao, cap, rfl, hc⟩ := hv
  by_cases h : 40 < n
  · exact ⟨_, c_cut_t ao n cap hc h, fun w xs hl hr => rd_take (by rw [hl]; exact hr) (by omega)⟩
  · refine ⟨_, c_cut_f ao n cap hc (by omega), fun w xs hl hr => ?_⟩
    rw [List.take_of_length_le (by omega)]; exact hr
theorem c_own (w0 : World) (v : Value) (zs : List Nat) (hv : Rd w0 v 4 fs4 zs) (hl : zs.length ≤ 40) : Gives Tryd.prog 6 #[v] w0 34 4 zs.length (zs.flatMap fs4) (fun v => v) := by
  obtain ⟨ao, cap, rfl, hx⟩ := hv.o
  unfold Gives
  refine calls_start Tryd.func6 rfl ?_
  refine C_seq ?_
  refine C_region ?_
  refine S_v (.slice none 0 0) ?_
  refine S_nil ?_
  refine E_then ?_
  refine C_seq ?_
  refine C_region ?_
  refine S_v (.slice ao zs.length cap) ?_
  refine S_v (.int .i64 ((zs.length : Nat) : Int)) ?_
  refine S_val (.int .i64 ((zs.length + 2 : Nat) : Int)) (by kernel_rfl) (fun _ _ => fv (v := .int .i64 (IntKind.i64.wrap (((zs.length : Nat) : Int) + 2))) (vint (w64 (by omega) (by omega) (by omega))) (by kernel_rfl)) ?_
  refine S_newv (fun nb0 => .slice (some ⟨nb0, 0, none⟩) (zs.length + 2) (zs.length + 2)) ((List.replicate (zs.length + 2) 0).flatMap fs4) 34 (by kernel_rfl) (mk (kl := .i64) (kc := .i64) (z := .agg #[.int .u64 0, .int .u64 0, .int .u64 0, .int .u64 0]) (i := Tryd.t34) (zs.length + 2) (zs.length + 2) Tryd.underlying25 (by kernel_rfl) (by kernel_rfl) rfl (by kernel_rfl) (by kernel_rfl) (by omega) (by simp only [Tryd.t34]; omega) (by omega) ((List.replicate (zs.length + 2) 0).flatMap fs4) (madeF (f := fs4) (d := 0) (zs.length + 2) rfl)) ?_
  intro b1 hb1 Hb1
  refine S_v (.slice (some ⟨b1, 0, none⟩) (zs.length + 2) (zs.length + 2)) ?_
  refine S_nil ?_
  refine E_then ?_
  refine C_seq ?_
  refine C_seq ?_
  refine C_region ?_
  refine S_v (.int .i64 0) ?_
  refine S_nil ?_
  refine E_then ?_
  refine C_block ?_
  refine C_loop1 (fun (i : Nat) => (i ≤ zs.length)) (fun (i : Nat) => fun g => ⟨#[.slice ao zs.length cap, g 1, g 2, .slice (some ⟨b1, 0, none⟩) (zs.length + 2) (zs.length + 2), .int .i64 ((i : Nat) : Int), g 5, g 6, g 7, g 8, g 9, g 10, g 11, g 12, g 13, g 14, g 15, g 16, g 17, g 18, g 19, g 20, g 21, g 22, g 23, g 24, g 25, g 26, g 27, g 28, g 29, g 30, g 31, g 32, g 33, g 34, g 35, g 36], []⟩) (fun (i : Nat) => [⟨b1, ((ow zs i).flatMap fs4), 34⟩]) (fun (i : Nat) => zs.length - i) 0 (by (try dsimp only); exact Nat.zero_le _) (by kernel_rfl) (by first | (dsimp only; done) | ((try dsimp only); simp [ow])) ?_
  rintro i g2 hi
  refine C_seq ?_
  refine C_seq ?_
  refine C_region ?_
  refine S_v (.int .i64 ((i : Nat) : Int)) ?_
  refine S_v (.slice ao zs.length cap) ?_
  refine S_v (.int .i64 ((zs.length : Nat) : Int)) ?_
  refine S_v (.bool (decide (((i : Nat) : Int) < ((zs.length : Nat) : Int)))) ?_
  refine S_nil ?_
  refine E_then ?_
  refine C_if (decide (((i : Nat) : Int) < ((zs.length : Nat) : Int))) (by kernel_rfl) (fun hc => ?_) (fun hc => ?_)
  · replace hc := of_decide_eq_true hc
    obtain ⟨bi3, oi4, rfl, hi5⟩ := hx.op (by omega)
    refine C_skip ?_
    refine E_then ?_
    refine C_seq ?_
    refine C_block ?_
    refine C_region ?_
    refine S_v (.slice (some ⟨b1, 0, none⟩) (zs.length + 2) (zs.length + 2)) ?_
    refine S_v (.int .i64 ((i : Nat) : Int)) ?_
    refine S_v (.slice (some ⟨bi3, oi4, none⟩) zs.length cap) ?_
    refine S_v (.int .i64 ((i : Nat) : Int)) ?_
    refine S_val (.pointer (some ⟨bi3, oi4 + i * 4, none⟩)) (by kernel_rfl) (fun w _ => (ixS (k := .i64) bi3 oi4 zs.length cap 4 i rfl (by kernel_rfl) (by kernel_rfl) Tryd.underlying22 Tryd.sizeOf33 (by omega)) w) ?_
    refine S_val (sc4 (zs.getD i 0)) (by kernel_rfl) (ldR fs4_len 0 i bi3 oi4 (oi4 + i * 4) hi5 rfl (by kernel_rfl) rfl (by omega) Tryd.isAgg33 Tryd.sizeOf33) ?_
    refine S_val (.pointer (some ⟨b1, 0 + i * 4, none⟩)) (by kernel_rfl) (fun w _ => (ixS (k := .i64) b1 0 (zs.length + 2) (zs.length + 2) 4 i rfl (by kernel_rfl) (by kernel_rfl) Tryd.underlying25 Tryd.sizeOf34 (by omega)) w) ?_
    refine S_do (by kernel_rfl) (stF (L' := [⟨b1, (((ow zs i).set i (zs.getD i 0)).flatMap fs4), 34⟩]) fs4_len fs4_one (ow zs i) (zs.getD i 0) i (0 + i * 4) 0 b1 34 rfl (by kernel_rfl) (by kernel_rfl) (by omega) (by rw [ow_length zs (by omega)]; omega) Tryd.sizeOf34 (by kernel_rfl) (by kernel_rfl)) ?_
    refine S_nil ?_
    refine E_inblock ?_
    refine E_then ?_
    refine C_region ?_
    refine S_v (.int .i64 ((i : Nat) : Int)) ?_
    refine S_val (.int .i64 ((i + 1 : Nat) : Int)) (by kernel_rfl) (fun _ _ => fv (v := .int .i64 (IntKind.i64.wrap (((i : Nat) : Int) + 1))) (vint (w64 (by omega) (by omega) (by omega))) (by kernel_rfl)) ?_
    refine S_v (.int .i64 ((i + 1 : Nat) : Int)) ?_
    refine S_nil ?_
    exact E_norm (fun w hw => ⟨i + 1, by omega, (by kernel_rfl), (by (try dsimp only); omega), Own.eq hw (by (try dsimp only); rw [ow_set zs (by omega)])⟩)
  · replace hc := of_decide_eq_false hc
    obtain rfl : i = zs.length := by omega
    refine C_exit ?_
    refine E_pass_exit ?_
    refine E_pass_exit ?_
    refine E_outblock ?_
    refine E_then ?_
    refine C_seq ?_
    refine C_region ?_
    refine S_v (.slice (some ⟨b1, 0, none⟩) (zs.length + 2) (zs.length + 2)) ?_
    refine S_v (.slice ao zs.length cap) ?_
    refine S_v (.int .i64 ((zs.length : Nat) : Int)) ?_
    refine S_v (.agg #[.int .u64 71, .int .u64 0, .int .u64 0, .int .u64 0]) ?_
    refine S_val (.pointer (some ⟨b1, 0 + zs.length * 4, none⟩)) (by kernel_rfl) (fun w _ => (ixS (k := .i64) b1 0 (zs.length + 2) (zs.length + 2) 4 zs.length rfl (by kernel_rfl) (by kernel_rfl) Tryd.underlying25 Tryd.sizeOf34 (by omega)) w) ?_
    refine S_do (by kernel_rfl) (stF (L' := [⟨b1, (((ow zs zs.length).set zs.length 71).flatMap fs4), 34⟩]) fs4_len fs4_one (ow zs zs.length) 71 zs.length (0 + zs.length * 4) 0 b1 34 rfl (by kernel_rfl) (by kernel_rfl) (by omega) (by rw [ow_length zs (by omega)]; omega) Tryd.sizeOf34 (by kernel_rfl) (by kernel_rfl)) ?_
    refine S_nil ?_
    refine E_then ?_
    refine C_seq ?_
    refine C_region ?_
    refine S_v (.slice (some ⟨b1, 0, none⟩) (zs.length + 2) (zs.length + 2)) ?_
    refine S_v (.slice ao zs.length cap) ?_
    refine S_v (.int .i64 ((zs.length : Nat) : Int)) ?_
    refine S_val (.int .i64 ((zs.length + 1 : Nat) : Int)) (by kernel_rfl) (fun _ _ => fv (v := .int .i64 (IntKind.i64.wrap (((zs.length : Nat) : Int) + 1))) (vint (w64 (by omega) (by omega) (by omega))) (by kernel_rfl)) ?_
    refine S_v (.agg #[.int .u64 72, .int .u64 0, .int .u64 0, .int .u64 0]) ?_
    refine S_val (.pointer (some ⟨b1, 0 + (zs.length + 1) * 4, none⟩)) (by kernel_rfl) (fun w _ => (ixS (k := .i64) b1 0 (zs.length + 2) (zs.length + 2) 4 (zs.length + 1) rfl (by kernel_rfl) (by kernel_rfl) Tryd.underlying25 Tryd.sizeOf34 (by omega)) w) ?_
    refine S_do (by kernel_rfl) (stF (L' := [⟨b1, ((((ow zs zs.length).set zs.length 71).set (zs.length + 1) 72).flatMap fs4), 34⟩]) fs4_len fs4_one ((ow zs zs.length).set zs.length 71) 72 (zs.length + 1) (0 + (zs.length + 1) * 4) 0 b1 34 rfl (by kernel_rfl) (by kernel_rfl) (by omega) (by rw [List.length_set, ow_length zs (by omega)]; omega) Tryd.sizeOf34 (by kernel_rfl) (by kernel_rfl)) ?_
    refine S_nil ?_
    refine E_then ?_
    refine C_seq ?_
    refine C_region ?_
    refine S_v (.slice (some ⟨b1, 0, none⟩) (zs.length + 2) (zs.length + 2)) ?_
    refine S_v (.slice ao zs.length cap) ?_
    refine S_v (.int .i64 ((zs.length : Nat) : Int)) ?_
    refine S_val (.slice (some ⟨b1, 0, none⟩) zs.length (zs.length + 2)) (by kernel_rfl) (fun w _ => sl0 (h := zs.length) (len := zs.length + 2) (k := .i64) Tryd.underlying25 Tryd.sizeOf34 rfl (by kernel_rfl) (by kernel_rfl) (by omega) (by omega) w) ?_
    refine S_v (.slice (some ⟨b1, 0, none⟩) zs.length (zs.length + 2)) ?_
    refine S_nil ?_
    refine E_then ?_
    refine C_ret ?_
    refine E_weak (L' := [⟨b1, (zs.flatMap fs4 ++ [71, 72].flatMap fs4), 34⟩]) (fun w hw => by rw [ow_fin, List.flatMap_append] at hw; exact hw) ?_
    exact gives_row (mk := fun v => v) (⟨flat_length fs4_len _, .inr ⟨b1, zs.length + 2, [71, 72].flatMap fs4, rfl, rfl, by omega, le_maxLen (by omega), by rw [List.length_append, flat_length fs4_len, flat_length fs4_len, Nat.add_mul]; rfl⟩⟩ : Rw 34 4 (.slice (some ⟨b1, 0, none⟩) zs.length (zs.length + 2)) zs.length (zs.flatMap fs4) [⟨b1, zs.flatMap fs4 ++ [71, 72].flatMap fs4, 34⟩]) (sub1 0 rfl) rfl (res1 Tryd.results6 (by kernel_rfl))
theorem c_fsum (w0 : World) (v : Value) (xs : List F5) (hxs : ∀ j, (xs.getD j F5.z).ok) (hv : Rd w0 v 5 ff5 xs) (hl : xs.length ≤ 1000000) : Calls Tryd.prog 21 #[v] w0 fun e w' => e = .returned (fsm xs xs.length).v ∧ Below w0.heap.size w0 w' := by
  obtain ⟨ao, cap, rfl, hx⟩ := hv.o
  refine calls_start Tryd.func21 rfl ?_
  refine C_seq ?_
  refine C_region ?_
  refine S_newv (fun nb0 => pt nb0 0) [.int .u64 0, .int .u64 0, .int .u64 0, .int .u64 0, .int .u64 0] 31 (by kernel_rfl) (fun w _ => by kernel_rfl) ?_
  intro b1 hb1 Hb1
  refine S_nil ?_
  refine E_then ?_
  refine C_seq ?_
  refine C_region ?_
  refine S_newv (fun nb0 => pt nb0 0) [.int .u64 0, .int .u64 0, .int .u64 0, .int .u64 0, .int .u64 0] 31 (by kernel_rfl) (fun w _ => by kernel_rfl) ?_
  intro b2 hb2 Hb2
  refine S_nil ?_
  refine E_then ?_
  refine C_seq ?_
  refine C_seq ?_
  refine C_region ?_
  refine S_v (.slice ao xs.length cap) ?_
  refine S_v (.int .i64 ((xs.length : Nat) : Int)) ?_
  refine S_v (.int .i64 0) ?_
  refine S_nil ?_
  refine E_then ?_
  refine C_block ?_
  refine C_loop1 (fun (k : Nat) => (k ≤ xs.length)) (fun (k : Nat) => fun g => ⟨#[g 0, g 1, pt b1 0, pt b2 0, g 4, g 5, .slice ao xs.length cap, .int .i64 ((xs.length : Nat) : Int), .int .i64 ((k : Nat) : Int), g 9, g 10, g 11, g 12, g 13, g 14, g 15, g 16, g 17], []⟩) (fun (k : Nat) => [⟨b2, [wd ((fsm xs k).l0), wd ((fsm xs k).l1), wd ((fsm xs k).l2), wd ((fsm xs k).l3), wd ((fsm xs k).l4)], 31⟩, ⟨b1, [.int .u64 0, .int .u64 0, .int .u64 0, .int .u64 0, .int .u64 0], 31⟩]) (fun (k : Nat) => xs.length - k) 0 (by (try dsimp only); exact Nat.zero_le _) (by kernel_rfl) (by first | (dsimp only; done) | ((try dsimp only); kernel_rfl)) ?_
  rintro k g3 hk
  refine C_seq ?_
  refine C_region ?_
  refine S_v (.bool (decide (((k : Nat) : Int) < ((xs.length : Nat) : Int)))) ?_
  refine S_nil ?_
  refine E_then ?_
  refine C_seq ?_
  refine C_if (decide (((k : Nat) : Int) < ((xs.length : Nat) : Int))) (by kernel_rfl) (fun hc => ?_) (fun hc => ?_)
  · replace hc := of_decide_eq_true hc
    obtain ⟨bi4, oi5, rfl, hi6⟩ := hx.op (by omega)
    refine C_skip ?_
    refine E_then ?_
    refine C_seq ?_
    refine C_block ?_
    refine C_seq ?_
    refine C_region ?_
    refine S_val (.pointer (some ⟨bi4, oi5 + k * 5, none⟩)) (by kernel_rfl) (fun w _ => (ixS (k := .i64) bi4 oi5 xs.length cap 5 k rfl (by kernel_rfl) (by kernel_rfl) Tryd.underlying28 Tryd.sizeOf31 (by omega)) w) ?_
    refine S_val (F5.v (xs.getD k F5.z)) (by kernel_rfl) (ldR ff5_len F5.z k bi4 oi5 (oi5 + k * 5) hi6 rfl (by kernel_rfl) rfl (by omega) Tryd.isAgg31 Tryd.sizeOf31) ?_
    refine S_newv (fun nb0 => pt nb0 0) [.int .u64 0, .int .u64 0, .int .u64 0, .int .u64 0, .int .u64 0] 31 (by kernel_rfl) (fun w _ => by kernel_rfl) ?_
    intro b7 hb7 Hb7
    refine S_do (by kernel_rfl) (stN (L' := [⟨b7, [wd ((xs.getD k F5.z).l0), wd ((xs.getD k F5.z).l1), wd ((xs.getD k F5.z).l2), wd ((xs.getD k F5.z).l3), wd ((xs.getD k F5.z).l4)], 31⟩, ⟨b2, [wd ((fsm xs k).l0), wd ((fsm xs k).l1), wd ((fsm xs k).l2), wd ((fsm xs k).l3), wd ((fsm xs k).l4)], 31⟩, ⟨b1, [.int .u64 0, .int .u64 0, .int .u64 0, .int .u64 0, .int .u64 0], 31⟩]) [wd ((xs.getD k F5.z).l0), wd ((xs.getD k F5.z).l1), wd ((xs.getD k F5.z).l2), wd ((xs.getD k F5.z).l3), wd ((xs.getD k F5.z).l4)] 0 b7 0 [.int .u64 0, .int .u64 0, .int .u64 0, .int .u64 0, .int .u64 0] 31 rfl (by kernel_rfl) (by kernel_rfl) Tryd.sizeOf31 (by simp [Value.oneCell']) (by kernel_rfl) (by simp) (by kernel_rfl)) ?_
    refine S_nil ?_
    refine E_then ?_
    refine C_region ?_
    refine S_val (F5.v (fsm xs k)) (by kernel_rfl) (ldN [wd ((fsm xs k).l0), wd ((fsm xs k).l1), wd ((fsm xs k).l2), wd ((fsm xs k).l3), wd ((fsm xs k).l4)] 1 b2 0 [wd ((fsm xs k).l0), wd ((fsm xs k).l1), wd ((fsm xs k).l2), wd ((fsm xs k).l3), wd ((fsm xs k).l4)] 31 rfl (by kernel_rfl) Tryd.isAgg31 Tryd.sizeOf31 (by kernel_rfl) (by kernel_rfl)) ?_
    refine S_v (.iface 31 (F5.v (fsm xs k))) ?_
    refine S_val (F5.v (xs.getD k F5.z)) (by kernel_rfl) (ldN [wd ((xs.getD k F5.z).l0), wd ((xs.getD k F5.z).l1), wd ((xs.getD k F5.z).l2), wd ((xs.getD k F5.z).l3), wd ((xs.getD k F5.z).l4)] 0 b7 0 [wd ((xs.getD k F5.z).l0), wd ((xs.getD k F5.z).l1), wd ((xs.getD k F5.z).l2), wd ((xs.getD k F5.z).l3), wd ((xs.getD k F5.z).l4)] 31 rfl (by kernel_rfl) Tryd.isAgg31 Tryd.sizeOf31 (by kernel_rfl) (by kernel_rfl)) ?_
    refine S_pure (v := F5.v (F5.of (((fsm xs k).val + (xs.getD k F5.z).val) % pp))) (by kernel_rfl) (c_fadd (fsm xs k) (xs.getD k F5.z) (fsm_ok _ _) (hxs _)) (fun _ => by kernel_rfl) ?_
    refine S_do (by kernel_rfl) (stN (L' := [⟨b7, [wd ((xs.getD k F5.z).l0), wd ((xs.getD k F5.z).l1), wd ((xs.getD k F5.z).l2), wd ((xs.getD k F5.z).l3), wd ((xs.getD k F5.z).l4)], 31⟩, ⟨b2, [wd ((F5.of (((fsm xs k).val + (xs.getD k F5.z).val) % pp)).l0), wd ((F5.of (((fsm xs k).val + (xs.getD k F5.z).val) % pp)).l1), wd ((F5.of (((fsm xs k).val + (xs.getD k F5.z).val) % pp)).l2), wd ((F5.of (((fsm xs k).val + (xs.getD k F5.z).val) % pp)).l3), wd ((F5.of (((fsm xs k).val + (xs.getD k F5.z).val) % pp)).l4)], 31⟩, ⟨b1, [.int .u64 0, .int .u64 0, .int .u64 0, .int .u64 0, .int .u64 0], 31⟩]) [wd ((F5.of (((fsm xs k).val + (xs.getD k F5.z).val) % pp)).l0), wd ((F5.of (((fsm xs k).val + (xs.getD k F5.z).val) % pp)).l1), wd ((F5.of (((fsm xs k).val + (xs.getD k F5.z).val) % pp)).l2), wd ((F5.of (((fsm xs k).val + (xs.getD k F5.z).val) % pp)).l3), wd ((F5.of (((fsm xs k).val + (xs.getD k F5.z).val) % pp)).l4)] 1 b2 0 [wd ((fsm xs k).l0), wd ((fsm xs k).l1), wd ((fsm xs k).l2), wd ((fsm xs k).l3), wd ((fsm xs k).l4)] 31 rfl (by kernel_rfl) (by kernel_rfl) Tryd.sizeOf31 (by simp [Value.oneCell']) (by kernel_rfl) (by simp) (by kernel_rfl)) ?_
    refine S_nil ?_
    refine E_inblock ?_
    refine E_then ?_
    refine C_region ?_
    refine S_val (.int .i64 ((k + 1 : Nat) : Int)) (by kernel_rfl) (fun _ _ => fv (v := .int .i64 (IntKind.i64.wrap (((k : Nat) : Int) + 1))) (vint (w64 (by omega) (by omega) (by omega))) (by kernel_rfl)) ?_
    refine S_v (.int .i64 ((k + 1 : Nat) : Int)) ?_
    refine S_nil ?_
    exact E_norm (fun w hw => ⟨k + 1, by omega, (by kernel_rfl), (by (try dsimp only); omega), hw.tail⟩)
  · replace hc := of_decide_eq_false hc
    obtain rfl : k = xs.length := by omega
    refine C_exit ?_
    refine E_pass_exit ?_
    refine E_pass_exit ?_
    refine E_outblock ?_
    refine E_then ?_
    refine C_seq ?_
    refine C_region ?_
    refine S_val (F5.v (fsm xs xs.length)) (by kernel_rfl) (ldN [wd ((fsm xs xs.length).l0), wd ((fsm xs xs.length).l1), wd ((fsm xs xs.length).l2), wd ((fsm xs xs.length).l3), wd ((fsm xs xs.length).l4)] 0 b2 0 [wd ((fsm xs xs.length).l0), wd ((fsm xs xs.length).l1), wd ((fsm xs xs.length).l2), wd ((fsm xs xs.length).l3), wd ((fsm xs xs.length).l4)] 31 rfl (by kernel_rfl) Tryd.isAgg31 Tryd.sizeOf31 (by kernel_rfl) (by kernel_rfl)) ?_
    refine S_do (by kernel_rfl) (stN (L' := [⟨b2, [wd ((fsm xs xs.length).l0), wd ((fsm xs xs.length).l1), wd ((fsm xs xs.length).l2), wd ((fsm xs xs.length).l3), wd ((fsm xs xs.length).l4)], 31⟩, ⟨b1, [wd ((fsm xs xs.length).l0), wd ((fsm xs xs.length).l1), wd ((fsm xs xs.length).l2), wd ((fsm xs xs.length).l3), wd ((fsm xs xs.length).l4)], 31⟩]) [wd ((fsm xs xs.length).l0), wd ((fsm xs xs.length).l1), wd ((fsm xs xs.length).l2), wd ((fsm xs xs.length).l3), wd ((fsm xs xs.length).l4)] 1 b1 0 [.int .u64 0, .int .u64 0, .int .u64 0, .int .u64 0, .int .u64 0] 31 rfl (by kernel_rfl) (by kernel_rfl) Tryd.sizeOf31 (by simp [Value.oneCell']) (by kernel_rfl) (by simp) (by kernel_rfl)) ?_
    refine S_nil ?_
    refine E_then ?_
    refine C_ret ?_
    exact pure_ret rfl (resC Tryd.results21 [wd ((fsm xs xs.length).l0), wd ((fsm xs xs.length).l1), wd ((fsm xs xs.length).l2), wd ((fsm xs xs.length).l3), wd ((fsm xs xs.length).l4)] 1 b1 31 (by kernel_rfl) Tryd.isAgg31 Tryd.sizeOf31 (by kernel_rfl))
theorem c_sinvnil (w0 : World)  (ao : Option Addr) (cap : Nat) : Gives Tryd.prog 8 #[.slice ao 0 cap] w0 34 4 0 ([] : List Value) (fun v => v) := by
  unfold Gives
  refine calls_start Tryd.func8 rfl ?_
  refine C_seq ?_
  refine C_region ?_
  refine S_v (.slice none 0 0) ?_
  refine S_nil ?_
  refine E_then ?_
  refine C_seq ?_
  refine C_seq ?_
  refine C_region ?_
  refine S_v (.slice ao 0 cap) ?_
  refine S_v (.int .i64 0) ?_
  refine S_v (.bool true) ?_
  refine S_nil ?_
  refine E_then ?_
  refine C_true (by kernel_rfl) ?_
  refine C_seq ?_
  refine C_region ?_
  refine S_v (.slice none 0 0) ?_
  refine S_nil ?_
  refine E_then ?_
  refine C_ret ?_
  refine E_pass_ret ?_
  exact gives_row (mk := (fun v => v)) (Rw.nil 34 4) (List.nil_sublist _) rfl (res1 Tryd.results8 (by kernel_rfl))
theorem c_finvnil (w0 : World)  (ao : Option Addr) (cap : Nat) : Gives Tryd.prog 9 #[.slice ao 0 cap] w0 31 5 0 ([] : List Value) (fun v => v) := by
  unfold Gives
  refine calls_start Tryd.func9 rfl ?_
  refine C_seq ?_
  refine C_region ?_
  refine S_v (.slice none 0 0) ?_
  refine S_nil ?_
  refine E_then ?_
  refine C_seq ?_
  refine C_seq ?_
  refine C_region ?_
  refine S_v (.slice ao 0 cap) ?_
  refine S_v (.int .i64 0) ?_
  refine S_v (.bool true) ?_
  refine S_nil ?_
  refine E_then ?_
  refine C_true (by kernel_rfl) ?_
  refine C_seq ?_
  refine C_region ?_
  refine S_v (.slice none 0 0) ?_
  refine S_nil ?_
  refine E_then ?_
  refine C_ret ?_
  refine E_pass_ret ?_
  exact gives_row (mk := (fun v => v)) (Rw.nil 31 5) (List.nil_sublist _) rfl (res1 Tryd.results9 (by kernel_rfl))
theorem c_sinvall' (w0 : World) (hT : GV 0 tbS w0) (v : Value) (xs : List Nat) (n : Nat) (hn : xs.length = n) (hxs : ∀ j, xs.getD j 0 < W256) (hv : Rd w0 v 4 fs4 xs) (hl : n ≤ 1000000) : Gives Tryd.prog 8 #[v] w0 34 4 n ((sll xs n).flatMap fs4) (fun v => v) := by
  subst hn
  by_cases h0 : 0 < xs.length
  · exact c_sinvall w0 hT v xs hxs hv h0 hl
  · have e : xs = [] := List.eq_nil_of_length_eq_zero (by omega)
    subst e
    obtain ⟨ao, cap, rfl, _⟩ := hv
    exact c_sinvnil w0 ao cap
theorem c_finvall' (w0 : World) (v : Value) (xs : List F5) (n : Nat) (hn : xs.length = n) (hxs : ∀ j, (xs.getD j F5.z).ok) (hv : Rd w0 v 5 ff5 xs) (hl : n ≤ 1000000) : Gives Tryd.prog 9 #[v] w0 31 5 n ((fll xs n).flatMap ff5) (fun v => v) := by
  subst hn
  by_cases h0 : 0 < xs.length
  · exact c_finvall w0 v xs hxs hv h0 hl
  · have e : xs = [] := List.eq_nil_of_length_eq_zero (by omega)
    subst e
    obtain ⟨ao, cap, rfl, _⟩ := hv
    exact c_finvnil w0 ao cap
end Go.Vk
