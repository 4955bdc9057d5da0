/- What functions of the program do: walks, printed by a program of my own. -/
import Derived.Test.YthmlkndmpkcjdaaPairL
set_option linter.unusedVariables false
set_option linter.unusedSimpArgs false
namespace Go.Vk
open Go Go.RowKit Go.Proofs
theorem walk_ring (w0 : World) (vc vd : Value) (c d : List Int) (x : Int) (hvc : Rd w0 vc 1 f7 c) (hvd : Rd w0 vd 1 f7 d) : Calls Try.prog 9 #[vc, vd, .int .i64 x] w0 fun e w' => e = .returned (.bool true) ∧ Below w0.heap.size w0 w' := by
  have hc40 := pl_len c
  have hd40 := pl_len d
  have hpr : (prp (pl c) (pl d)).length ≤ 80 := by unfold prp; split; simp; rw [poutp_length]; omega
  refine calls_start Try.func9 rfl ?_
  refine C_seq ?_
  refine C_region ?_
  refine S_val (.bool false) (by kernel_rfl) (fun _ _ => by kernel_rfl) ?_
  refine S_nil ?_
  refine E_then ?_
  refine C_seq ?_
  refine C_seq ?_
  refine C_region ?_
  refine S_pure (v := .bool true) (by kernel_rfl) c_alive (fun _ => by kernel_rfl) ?_
  refine S_val (.bool false) (by kernel_rfl) (fun _ _ => by kernel_rfl) ?_
  refine S_nil ?_
  refine E_then ?_
  refine C_false (by kernel_rfl) ?_
  refine C_skip ?_
  refine E_then ?_
  refine C_seq ?_
  refine C_region ?_
  refine S_val (vc) (by kernel_rfl) (fun _ _ => by kernel_rfl) ?_
  refine S_gives (mk := fun v0 => v0) (by kernel_rfl) (fun _ _ => by kernel_rfl) (fun w hO => (c_pairs w vc c (hvc.own hO))) ?_
  intro v1 ob2 hr3
  obtain ⟨ao4, cap5, rfl⟩ := hr3.len
  refine S_val (.slice ao4 ((pl c).length) cap5) (by kernel_rfl) (fun _ _ => by kernel_rfl) ?_
  refine S_nil ?_
  refine E_then ?_
  refine C_seq ?_
  refine C_region ?_
  refine S_val (vd) (by kernel_rfl) (fun _ _ => by kernel_rfl) ?_
  refine S_gives (mk := fun v0 => v0) (by kernel_rfl) (fun _ _ => by kernel_rfl) (fun w hO => (c_pairs w vd d (hvd.own hO))) ?_
  intro v6 ob7 hr8
  obtain ⟨ao9, cap10, rfl⟩ := hr8.len
  refine S_val (.slice ao9 ((pl d).length) cap10) (by kernel_rfl) (fun _ _ => by kernel_rfl) ?_
  refine S_nil ?_
  refine E_then ?_
  refine C_seq ?_
  refine C_region ?_
  refine S_val (.int .i64 x) (by kernel_rfl) (fun _ _ => by kernel_rfl) ?_
  refine S_val (.int .i64 (x.tmod 35)) (by kernel_rfl) (fun _ _ => by kernel_rfl) ?_
  refine S_val (.int .i64 x) (by kernel_rfl) (fun _ _ => by kernel_rfl) ?_
  refine S_val (.int .i64 (x.tmod 35)) (by kernel_rfl) (fun _ _ => by kernel_rfl) ?_
  refine S_val (.agg #[.int .i64 (x.tmod 35), .int .i64 (x.tmod 35)]) (by kernel_rfl) (fun _ _ => by kernel_rfl) ?_
  refine S_newv (fun nb0 => .pointer (some ⟨nb0, 0, none⟩)) [.int .i64 0, .int .i64 0] 85 (by kernel_rfl) (fun w _ => by kernel_rfl) ?_
  intro b11 hb11 Hb11
  refine S_do (by kernel_rfl) (stN (L' := [⟨b11, [.int .i64 (x.tmod 35), .int .i64 (x.tmod 35)], 85⟩] ++ ob2 ++ ob7) [.int .i64 (x.tmod 35), .int .i64 (x.tmod 35)] 0 b11 0 [.int .i64 0, .int .i64 0] 85 rfl (by kernel_rfl) (by kernel_rfl) Try.sizeOf85 (by simp [Value.oneCell']) (by kernel_rfl) (by simp) (by kernel_rfl)) ?_
  refine S_nil ?_
  refine E_then ?_
  refine C_seq ?_
  refine C_seq ?_
  refine C_drawnO [.pure, .pure, .giv, .held, .held, .pure, .held, .held, .pure, .held, .held, .held, .held, .held, .pure] [0, 1, 3, 5, 6, 8, 9, 2, 4, 7, 10, 11, 12, 13, 14] (by kernel_rfl) (by kernel_rfl) ?_
  refine D_val (.slice ao4 ((pl c).length) cap5) (by kernel_rfl) (fun _ => by kernel_rfl) ?_
  refine D_val (.slice ao9 ((pl d).length) cap10) (by kernel_rfl) (fun _ => by kernel_rfl) ?_
  refine D_held (.agg #[.int .i64 (x.tmod 35), .int .i64 (x.tmod 35)]) (by kernel_rfl) (ldN [.int .i64 (x.tmod 35), .int .i64 (x.tmod 35)] 0 b11 0 [.int .i64 (x.tmod 35), .int .i64 (x.tmod 35)] 85 rfl (by kernel_rfl) Try.isAgg85 Try.sizeOf85 (by kernel_rfl) (by kernel_rfl)) ?_
  refine D_val (.slice ao4 ((pl c).length) cap5) (by kernel_rfl) (fun _ => by kernel_rfl) ?_
  refine D_held (.agg #[.int .i64 (x.tmod 35), .int .i64 (x.tmod 35)]) (by kernel_rfl) (ldN [.int .i64 (x.tmod 35), .int .i64 (x.tmod 35)] 0 b11 0 [.int .i64 (x.tmod 35), .int .i64 (x.tmod 35)] 85 rfl (by kernel_rfl) Try.isAgg85 Try.sizeOf85 (by kernel_rfl) (by kernel_rfl)) ?_
  refine D_val (.slice ao9 ((pl d).length) cap10) (by kernel_rfl) (fun _ => by kernel_rfl) ?_
  refine D_held (.agg #[.int .i64 (x.tmod 35), .int .i64 (x.tmod 35)]) (by kernel_rfl) (ldN [.int .i64 (x.tmod 35), .int .i64 (x.tmod 35)] 0 b11 0 [.int .i64 (x.tmod 35), .int .i64 (x.tmod 35)] 85 rfl (by kernel_rfl) Try.isAgg85 Try.sizeOf85 (by kernel_rfl) (by kernel_rfl)) ?_
  refine D_gives (mk := fun v0 => v0) (RowOf.inh fp_len (prp (pl c) (pl d)) ((prp (pl c) (pl d)).length) rfl (le_maxLen (by omega))) (by kernel_rfl) (fun _ _ => by kernel_rfl) (fun w hO => (c_productp w _ _ (pl c) (pl d) (Rw.rd' fp_len rfl hr3 hO (((List.sublist_append_right _ _).trans (List.sublist_append_left _ _)))) (Rw.rd' fp_len rfl hr8 hO ((List.sublist_append_right _ _))) (by omega) (by omega))) ?_
  intro v12 ob13 hr14
  obtain ⟨ao15, cap16, rfl⟩ := hr14.len
  refine D_call (.agg #[.int .i64 ((evp (prp (pl c) (pl d)) (x.tmod 35, x.tmod 35)).1), .int .i64 ((evp (prp (pl c) (pl d)) (x.tmod 35, x.tmod 35)).2)]) (by kernel_rfl) (fun _ _ => by kernel_rfl) (fun w hO => (c_evalp w _ (prp (pl c) (pl d)) (x.tmod 35, x.tmod 35) (Rw.rd' fp_len rfl hr14 hO ((List.sublist_append_right _ _))) (by omega))) ?_
  refine D_call (.agg #[.int .i64 ((evp (pl c) (x.tmod 35, x.tmod 35)).1), .int .i64 ((evp (pl c) (x.tmod 35, x.tmod 35)).2)]) (by kernel_rfl) (fun _ _ => by kernel_rfl) (fun w hO => (c_evalp w _ (pl c) (x.tmod 35, x.tmod 35) (Rw.rd' fp_len rfl hr3 hO ((((List.sublist_append_right _ _).trans (List.sublist_append_left _ _)).trans (List.sublist_append_left _ _)))) (by omega))) ?_
  refine D_call (.agg #[.int .i64 ((evp (pl d) (x.tmod 35, x.tmod 35)).1), .int .i64 ((evp (pl d) (x.tmod 35, x.tmod 35)).2)]) (by kernel_rfl) (fun _ _ => by kernel_rfl) (fun w hO => (c_evalp w _ (pl d) (x.tmod 35, x.tmod 35) (Rw.rd' fp_len rfl hr8 hO (((List.sublist_append_right _ _).trans (List.sublist_append_left _ _)))) (by omega))) ?_
  refine D_pure (v := .agg #[.int .i64 ((pm (evp (pl c) (x.tmod 35, x.tmod 35)) (evp (pl d) (x.tmod 35, x.tmod 35))).1), .int .i64 ((pm (evp (pl c) (x.tmod 35, x.tmod 35)) (evp (pl d) (x.tmod 35, x.tmod 35))).2)]) (by kernel_rfl) (c_pmul (evp (pl c) (x.tmod 35, x.tmod 35)) (evp (pl d) (x.tmod 35, x.tmod 35))) (fun _ => by kernel_rfl) ?_
  refine D_pure (v := .agg #[.int .i64 ((ps (evp (prp (pl c) (pl d)) (x.tmod 35, x.tmod 35)) (pm (evp (pl c) (x.tmod 35, x.tmod 35)) (evp (pl d) (x.tmod 35, x.tmod 35)))).1), .int .i64 ((ps (evp (prp (pl c) (pl d)) (x.tmod 35, x.tmod 35)) (pm (evp (pl c) (x.tmod 35, x.tmod 35)) (evp (pl d) (x.tmod 35, x.tmod 35)))).2)]) (by kernel_rfl) (c_psub (evp (prp (pl c) (pl d)) (x.tmod 35, x.tmod 35)) (pm (evp (pl c) (x.tmod 35, x.tmod 35)) (evp (pl d) (x.tmod 35, x.tmod 35)))) (fun _ => by kernel_rfl) ?_
  refine D_pure (v := .bool (pzero (ps (evp (prp (pl c) (pl d)) (x.tmod 35, x.tmod 35)) (pm (evp (pl c) (x.tmod 35, x.tmod 35)) (evp (pl d) (x.tmod 35, x.tmod 35)))))) (by kernel_rfl) (c_pzero (ps (evp (prp (pl c) (pl d)) (x.tmod 35, x.tmod 35)) (pm (evp (pl c) (x.tmod 35, x.tmod 35)) (evp (pl d) (x.tmod 35, x.tmod 35))))) (fun _ => by kernel_rfl) ?_
  refine D_val (.bool (!(pzero (ps (evp (prp (pl c) (pl d)) (x.tmod 35, x.tmod 35)) (pm (evp (pl c) (x.tmod 35, x.tmod 35)) (evp (pl d) (x.tmod 35, x.tmod 35))))))) (by kernel_rfl) (fun _ => by kernel_rfl) ?_
  refine D_nil ?_
  refine E_then ?_
  refine C_falseb (t := !(pzero (ps (evp (prp (pl c) (pl d)) (x.tmod 35, x.tmod 35)) (pm (evp (pl c) (x.tmod 35, x.tmod 35)) (evp (pl d) (x.tmod 35, x.tmod 35)))))) (by kernel_rfl) (by rw [ring1]; rfl) ?_
  refine C_skip ?_
  refine E_then ?_
  refine C_seq ?_
  refine C_region ?_
  refine S_val (.agg #[.int .i64 (x.tmod 35), .int .i64 (x.tmod 35)]) (by kernel_rfl) (ldN [.int .i64 (x.tmod 35), .int .i64 (x.tmod 35)] 0 b11 0 [.int .i64 (x.tmod 35), .int .i64 (x.tmod 35)] 85 rfl (by kernel_rfl) Try.isAgg85 Try.sizeOf85 (by kernel_rfl) (by kernel_rfl)) ?_
  refine S_val (.slice ao4 ((pl c).length) cap5) (by kernel_rfl) (fun _ _ => by kernel_rfl) ?_
  refine S_val (.int .i64 (((pl c).length : Nat) : Int)) (by kernel_rfl) (fun _ _ => by kernel_rfl) ?_
  refine S_gives (mk := fun v0 => .tuple #[v0, .int .i64 0]) (by kernel_rfl) (fun _ _ => by kernel_rfl) (fun w hO => (c_powers w (x.tmod 35, x.tmod 35) (pl c).length (by omega))) ?_
  intro v17 ob18 hr19
  obtain ⟨ao20, cap21, rfl⟩ := hr19.len
  refine S_val (.tuple #[.slice ao20 ((pl c).length) cap21, .int .i64 0]) (by kernel_rfl) (fun _ _ => by kernel_rfl) ?_
  refine S_val (.slice ao20 ((pl c).length) cap21) (by kernel_rfl) (fun _ _ => by kernel_rfl) ?_
  refine S_val (.int .i64 0) (by kernel_rfl) (fun _ _ => by kernel_rfl) ?_
  refine S_val (.slice ao20 ((pl c).length) cap21) (by kernel_rfl) (fun _ _ => by kernel_rfl) ?_
  refine S_val (.int .i64 0) (by kernel_rfl) (fun _ _ => by kernel_rfl) ?_
  refine S_nil ?_
  refine E_then ?_
  refine C_seq ?_
  refine C_seq ?_
  refine C_region ?_
  refine S_val (.int .i64 0) (by kernel_rfl) (fun _ _ => by kernel_rfl) ?_
  refine S_val (.bool false) (by kernel_rfl) (fun _ _ => by kernel_rfl) ?_
  refine S_val (.bool false) (by kernel_rfl) (fun _ _ => by kernel_rfl) ?_
  refine S_val (.slice ao20 ((pl c).length) cap21) (by kernel_rfl) (fun _ _ => by kernel_rfl) ?_
  refine S_val (.int .i64 (((pl c).length : Nat) : Int)) (by kernel_rfl) (fun _ _ => by kernel_rfl) ?_
  refine S_val (.slice ao4 ((pl c).length) cap5) (by kernel_rfl) (fun _ _ => by kernel_rfl) ?_
  refine S_val (.int .i64 (((pl c).length : Nat) : Int)) (by kernel_rfl) (fun _ _ => by kernel_rfl) ?_
  refine S_val (.bool false) (by kernel_rfl) (fun _ _ => fv (v := .bool ((((pl c).length : Nat) : Int) != (((pl c).length : Nat) : Int))) (vbool (bne_eq_false_iff_eq.2 (by omega))) (by kernel_rfl)) ?_
  refine S_val (.bool false) (by kernel_rfl) (fun _ _ => by kernel_rfl) ?_
  refine S_nil ?_
  refine E_then ?_
  refine C_false (by kernel_rfl) ?_
  refine C_skip ?_
  refine E_then ?_
  refine C_seq ?_
  refine C_region ?_
  refine S_val (.slice ao20 ((pl c).length) cap21) (by kernel_rfl) (fun _ _ => by kernel_rfl) ?_
  refine S_val (.slice ao4 ((pl c).length) cap5) (by kernel_rfl) (fun _ _ => by kernel_rfl) ?_
  refine S_call (by kernel_rfl) (fun _ _ => by kernel_rfl) (fun w hO => ((c_innerp w _ _ (pws (x.tmod 35, x.tmod 35) (pl c).length (pl c).length) (pl c) (Rw.rd' fp_len (pws_length _ _ _) hr19 hO ((List.sublist_append_right _ _))) (Rw.rd' fp_len rfl hr3 hO (((((List.sublist_append_right _ _).trans (List.sublist_append_left _ _)).trans (List.sublist_append_left _ _)).trans (List.sublist_append_left _ _)))) (by first | rfl | simp [pws_length, mxs_length]) (by (try simp only [pws_length, mxs_length]); omega))).mono fun _ _ ⟨he, hb⟩ => ⟨.tuple #[.agg #[.int .i64 ((inp (pws (x.tmod 35, x.tmod 35) (pl c).length (pl c).length) (pl c) (pws (x.tmod 35, x.tmod 35) (pl c).length (pl c).length).length).1), .int .i64 ((inp (pws (x.tmod 35, x.tmod 35) (pl c).length (pl c).length) (pl c) (pws (x.tmod 35, x.tmod 35) (pl c).length (pl c).length).length).2)], .int .i64 0], _, he, hO.call hb, ?_⟩)
  refine S_val (.tuple #[.agg #[.int .i64 ((inp (pws (x.tmod 35, x.tmod 35) (pl c).length (pl c).length) (pl c) (pws (x.tmod 35, x.tmod 35) (pl c).length (pl c).length).length).1), .int .i64 ((inp (pws (x.tmod 35, x.tmod 35) (pl c).length (pl c).length) (pl c) (pws (x.tmod 35, x.tmod 35) (pl c).length (pl c).length).length).2)], .int .i64 0]) (by kernel_rfl) (fun _ _ => by kernel_rfl) ?_
  refine S_val (.agg #[.int .i64 ((inp (pws (x.tmod 35, x.tmod 35) (pl c).length (pl c).length) (pl c) (pws (x.tmod 35, x.tmod 35) (pl c).length (pl c).length).length).1), .int .i64 ((inp (pws (x.tmod 35, x.tmod 35) (pl c).length (pl c).length) (pl c) (pws (x.tmod 35, x.tmod 35) (pl c).length (pl c).length).length).2)]) (by kernel_rfl) (fun _ _ => by kernel_rfl) ?_
  refine S_val (.int .i64 0) (by kernel_rfl) (fun _ _ => by kernel_rfl) ?_
  refine S_newv (fun nb0 => .pointer (some ⟨nb0, 0, none⟩)) [.int .i64 0, .int .i64 0] 85 (by kernel_rfl) (fun w _ => by kernel_rfl) ?_
  intro b22 hb22 Hb22
  refine S_do (by kernel_rfl) (stN (L' := [⟨b22, [.int .i64 ((inp (pws (x.tmod 35, x.tmod 35) (pl c).length (pl c).length) (pl c) (pws (x.tmod 35, x.tmod 35) (pl c).length (pl c).length).length).1), .int .i64 ((inp (pws (x.tmod 35, x.tmod 35) (pl c).length (pl c).length) (pl c) (pws (x.tmod 35, x.tmod 35) (pl c).length (pl c).length).length).2)], 85⟩, ⟨b11, [.int .i64 (x.tmod 35), .int .i64 (x.tmod 35)], 85⟩] ++ ob2 ++ ob7 ++ ob13 ++ ob18) [.int .i64 ((inp (pws (x.tmod 35, x.tmod 35) (pl c).length (pl c).length) (pl c) (pws (x.tmod 35, x.tmod 35) (pl c).length (pl c).length).length).1), .int .i64 ((inp (pws (x.tmod 35, x.tmod 35) (pl c).length (pl c).length) (pl c) (pws (x.tmod 35, x.tmod 35) (pl c).length (pl c).length).length).2)] 0 b22 0 [.int .i64 0, .int .i64 0] 85 rfl (by kernel_rfl) (by kernel_rfl) Try.sizeOf85 (by simp [Value.oneCell']) (by kernel_rfl) (by simp) (by kernel_rfl)) ?_
  refine S_val (.int .i64 0) (by kernel_rfl) (fun _ _ => by kernel_rfl) ?_
  refine S_nil ?_
  refine E_then ?_
  refine C_seq ?_
  refine C_seq ?_
  refine C_drawn [.pure, .pure, .pure, .held, .pure, .held, .held, .held, .held, .pure, .pure] (by kernel_rfl) (by kernel_rfl) ?_
  refine D_val (.int .i64 0) (by kernel_rfl) (fun _ => by kernel_rfl) ?_
  refine D_val (.bool false) (by kernel_rfl) (fun _ => by kernel_rfl) ?_
  refine D_val (.bool false) (by kernel_rfl) (fun _ => by kernel_rfl) ?_
  refine D_held (.agg #[.int .i64 ((inp (pws (x.tmod 35, x.tmod 35) (pl c).length (pl c).length) (pl c) (pws (x.tmod 35, x.tmod 35) (pl c).length (pl c).length).length).1), .int .i64 ((inp (pws (x.tmod 35, x.tmod 35) (pl c).length (pl c).length) (pl c) (pws (x.tmod 35, x.tmod 35) (pl c).length (pl c).length).length).2)]) (by kernel_rfl) (ldN [.int .i64 ((inp (pws (x.tmod 35, x.tmod 35) (pl c).length (pl c).length) (pl c) (pws (x.tmod 35, x.tmod 35) (pl c).length (pl c).length).length).1), .int .i64 ((inp (pws (x.tmod 35, x.tmod 35) (pl c).length (pl c).length) (pl c) (pws (x.tmod 35, x.tmod 35) (pl c).length (pl c).length).length).2)] 0 b22 0 [.int .i64 ((inp (pws (x.tmod 35, x.tmod 35) (pl c).length (pl c).length) (pl c) (pws (x.tmod 35, x.tmod 35) (pl c).length (pl c).length).length).1), .int .i64 ((inp (pws (x.tmod 35, x.tmod 35) (pl c).length (pl c).length) (pl c) (pws (x.tmod 35, x.tmod 35) (pl c).length (pl c).length).length).2)] 85 rfl (by kernel_rfl) Try.isAgg85 Try.sizeOf85 (by kernel_rfl) (by kernel_rfl)) ?_
  refine D_val (.slice ao4 ((pl c).length) cap5) (by kernel_rfl) (fun _ => by kernel_rfl) ?_
  refine D_held (.agg #[.int .i64 (x.tmod 35), .int .i64 (x.tmod 35)]) (by kernel_rfl) (ldN [.int .i64 (x.tmod 35), .int .i64 (x.tmod 35)] 1 b11 0 [.int .i64 (x.tmod 35), .int .i64 (x.tmod 35)] 85 rfl (by kernel_rfl) Try.isAgg85 Try.sizeOf85 (by kernel_rfl) (by kernel_rfl)) ?_
  refine D_call (.agg #[.int .i64 ((evp (pl c) (x.tmod 35, x.tmod 35)).1), .int .i64 ((evp (pl c) (x.tmod 35, x.tmod 35)).2)]) (by kernel_rfl) (fun _ _ => by kernel_rfl) (fun w hO => (c_evalp w _ (pl c) (x.tmod 35, x.tmod 35) (Rw.rd' fp_len rfl hr3 hO (((((List.sublist_append_right _ _).trans (List.sublist_append_left _ _)).trans (List.sublist_append_left _ _)).trans (List.sublist_append_left _ _)))) (by omega))) ?_
  refine D_pure (v := .agg #[.int .i64 ((ps (inp (pws (x.tmod 35, x.tmod 35) (pl c).length (pl c).length) (pl c) (pws (x.tmod 35, x.tmod 35) (pl c).length (pl c).length).length) (evp (pl c) (x.tmod 35, x.tmod 35))).1), .int .i64 ((ps (inp (pws (x.tmod 35, x.tmod 35) (pl c).length (pl c).length) (pl c) (pws (x.tmod 35, x.tmod 35) (pl c).length (pl c).length).length) (evp (pl c) (x.tmod 35, x.tmod 35))).2)]) (by kernel_rfl) (c_psub (inp (pws (x.tmod 35, x.tmod 35) (pl c).length (pl c).length) (pl c) (pws (x.tmod 35, x.tmod 35) (pl c).length (pl c).length).length) (evp (pl c) (x.tmod 35, x.tmod 35))) (fun _ => by kernel_rfl) ?_
  refine D_pure (v := .bool (pzero (ps (inp (pws (x.tmod 35, x.tmod 35) (pl c).length (pl c).length) (pl c) (pws (x.tmod 35, x.tmod 35) (pl c).length (pl c).length).length) (evp (pl c) (x.tmod 35, x.tmod 35))))) (by kernel_rfl) (c_pzero (ps (inp (pws (x.tmod 35, x.tmod 35) (pl c).length (pl c).length) (pl c) (pws (x.tmod 35, x.tmod 35) (pl c).length (pl c).length).length) (evp (pl c) (x.tmod 35, x.tmod 35)))) (fun _ => by kernel_rfl) ?_
  refine D_val (.bool (!(pzero (ps (inp (pws (x.tmod 35, x.tmod 35) (pl c).length (pl c).length) (pl c) (pws (x.tmod 35, x.tmod 35) (pl c).length (pl c).length).length) (evp (pl c) (x.tmod 35, x.tmod 35)))))) (by kernel_rfl) (fun _ => by kernel_rfl) ?_
  refine D_val (.bool (!(pzero (ps (inp (pws (x.tmod 35, x.tmod 35) (pl c).length (pl c).length) (pl c) (pws (x.tmod 35, x.tmod 35) (pl c).length (pl c).length).length) (evp (pl c) (x.tmod 35, x.tmod 35)))))) (by kernel_rfl) (fun _ => by kernel_rfl) ?_
  refine D_nil ?_
  refine E_then ?_
  refine C_falseb (t := !(pzero (ps (inp (pws (x.tmod 35, x.tmod 35) (pl c).length (pl c).length) (pl c) (pws (x.tmod 35, x.tmod 35) (pl c).length (pl c).length).length) (evp (pl c) (x.tmod 35, x.tmod 35))))) (by kernel_rfl) (by rw [ring2]; rfl) ?_
  refine C_skip ?_
  refine E_then ?_
  refine C_seq ?_
  refine C_region ?_
  refine S_val (.agg #[.int .i64 (x.tmod 35), .int .i64 (x.tmod 35)]) (by kernel_rfl) (ldN [.int .i64 (x.tmod 35), .int .i64 (x.tmod 35)] 1 b11 0 [.int .i64 (x.tmod 35), .int .i64 (x.tmod 35)] 85 rfl (by kernel_rfl) Try.isAgg85 Try.sizeOf85 (by kernel_rfl) (by kernel_rfl)) ?_
  refine S_val (.slice ao4 ((pl c).length) cap5) (by kernel_rfl) (fun _ _ => by kernel_rfl) ?_
  refine S_val (.agg #[.int .i64 1, .int .i64 1]) (by kernel_rfl) (fun _ _ => by kernel_rfl) ?_
  refine S_val (.slice ao20 ((pl c).length) cap21) (by kernel_rfl) (fun _ _ => by kernel_rfl) ?_
  refine S_gives (mk := fun v0 => .tuple #[v0, .int .i64 0]) (by kernel_rfl) (fun _ _ => by kernel_rfl) (fun w hO => (c_mix w _ _ (x.tmod 35, x.tmod 35) (1, 1) (pl c) (pws (x.tmod 35, x.tmod 35) (pl c).length (pl c).length) (Rw.rd' fp_len rfl hr3 hO (((((List.sublist_append_right _ _).trans (List.sublist_append_left _ _)).trans (List.sublist_append_left _ _)).trans (List.sublist_append_left _ _)))) (Rw.rd' fp_len (pws_length _ _ _) hr19 hO ((List.sublist_append_right _ _))) (pws_length _ _ _) (by omega))) ?_
  intro v23 ob24 hr25
  obtain ⟨ao26, cap27, rfl⟩ := hr25.len
  refine S_val (.tuple #[.slice ao26 ((pl c).length) cap27, .int .i64 0]) (by kernel_rfl) (fun _ _ => by kernel_rfl) ?_
  refine S_val (.slice ao26 ((pl c).length) cap27) (by kernel_rfl) (fun _ _ => by kernel_rfl) ?_
  refine S_val (.int .i64 0) (by kernel_rfl) (fun _ _ => by kernel_rfl) ?_
  refine S_val (.slice ao26 ((pl c).length) cap27) (by kernel_rfl) (fun _ _ => by kernel_rfl) ?_
  refine S_val (.int .i64 0) (by kernel_rfl) (fun _ _ => by kernel_rfl) ?_
  refine S_nil ?_
  refine E_then ?_
  refine C_seq ?_
  refine C_seq ?_
  refine C_region ?_
  refine S_val (.int .i64 0) (by kernel_rfl) (fun _ _ => by kernel_rfl) ?_
  refine S_val (.bool false) (by kernel_rfl) (fun _ _ => by kernel_rfl) ?_
  refine S_val (.bool false) (by kernel_rfl) (fun _ _ => by kernel_rfl) ?_
  refine S_val (.slice ao26 ((pl c).length) cap27) (by kernel_rfl) (fun _ _ => by kernel_rfl) ?_
  refine S_val (.int .i64 (((pl c).length : Nat) : Int)) (by kernel_rfl) (fun _ _ => by kernel_rfl) ?_
  refine S_val (.slice ao4 ((pl c).length) cap5) (by kernel_rfl) (fun _ _ => by kernel_rfl) ?_
  refine S_val (.int .i64 (((pl c).length : Nat) : Int)) (by kernel_rfl) (fun _ _ => by kernel_rfl) ?_
  refine S_val (.bool false) (by kernel_rfl) (fun _ _ => fv (v := .bool ((((pl c).length : Nat) : Int) != (((pl c).length : Nat) : Int))) (vbool (bne_eq_false_iff_eq.2 (by omega))) (by kernel_rfl)) ?_
  refine S_val (.bool false) (by kernel_rfl) (fun _ _ => by kernel_rfl) ?_
  refine S_nil ?_
  refine E_then ?_
  refine C_false (by kernel_rfl) ?_
  refine C_skip ?_
  refine E_then ?_
  refine C_seq ?_
  refine C_region ?_
  refine S_val (.slice ao26 ((pl c).length) cap27) (by kernel_rfl) (fun _ _ => by kernel_rfl) ?_
  refine S_val (.slice ao4 ((pl c).length) cap5) (by kernel_rfl) (fun _ _ => by kernel_rfl) ?_
  refine S_call (by kernel_rfl) (fun _ _ => by kernel_rfl) (fun w hO => ((c_innerp w _ _ (mxs (x.tmod 35, x.tmod 35) (pl c) (1, 1) (pws (x.tmod 35, x.tmod 35) (pl c).length (pl c).length) (pl c).length) (pl c) (Rw.rd' fp_len (mxs_length _ _ _ _ _) hr25 hO ((List.sublist_append_right _ _))) (Rw.rd' fp_len rfl hr3 hO ((((((List.sublist_append_right _ _).trans (List.sublist_append_left _ _)).trans (List.sublist_append_left _ _)).trans (List.sublist_append_left _ _)).trans (List.sublist_append_left _ _)))) (by first | rfl | simp [pws_length, mxs_length]) (by (try simp only [pws_length, mxs_length]); omega))).mono fun _ _ ⟨he, hb⟩ => ⟨.tuple #[.agg #[.int .i64 ((inp (mxs (x.tmod 35, x.tmod 35) (pl c) (1, 1) (pws (x.tmod 35, x.tmod 35) (pl c).length (pl c).length) (pl c).length) (pl c) (mxs (x.tmod 35, x.tmod 35) (pl c) (1, 1) (pws (x.tmod 35, x.tmod 35) (pl c).length (pl c).length) (pl c).length).length).1), .int .i64 ((inp (mxs (x.tmod 35, x.tmod 35) (pl c) (1, 1) (pws (x.tmod 35, x.tmod 35) (pl c).length (pl c).length) (pl c).length) (pl c) (mxs (x.tmod 35, x.tmod 35) (pl c) (1, 1) (pws (x.tmod 35, x.tmod 35) (pl c).length (pl c).length) (pl c).length).length).2)], .int .i64 0], _, he, hO.call hb, ?_⟩)
  refine S_val (.tuple #[.agg #[.int .i64 ((inp (mxs (x.tmod 35, x.tmod 35) (pl c) (1, 1) (pws (x.tmod 35, x.tmod 35) (pl c).length (pl c).length) (pl c).length) (pl c) (mxs (x.tmod 35, x.tmod 35) (pl c) (1, 1) (pws (x.tmod 35, x.tmod 35) (pl c).length (pl c).length) (pl c).length).length).1), .int .i64 ((inp (mxs (x.tmod 35, x.tmod 35) (pl c) (1, 1) (pws (x.tmod 35, x.tmod 35) (pl c).length (pl c).length) (pl c).length) (pl c) (mxs (x.tmod 35, x.tmod 35) (pl c) (1, 1) (pws (x.tmod 35, x.tmod 35) (pl c).length (pl c).length) (pl c).length).length).2)], .int .i64 0]) (by kernel_rfl) (fun _ _ => by kernel_rfl) ?_
  refine S_val (.agg #[.int .i64 ((inp (mxs (x.tmod 35, x.tmod 35) (pl c) (1, 1) (pws (x.tmod 35, x.tmod 35) (pl c).length (pl c).length) (pl c).length) (pl c) (mxs (x.tmod 35, x.tmod 35) (pl c) (1, 1) (pws (x.tmod 35, x.tmod 35) (pl c).length (pl c).length) (pl c).length).length).1), .int .i64 ((inp (mxs (x.tmod 35, x.tmod 35) (pl c) (1, 1) (pws (x.tmod 35, x.tmod 35) (pl c).length (pl c).length) (pl c).length) (pl c) (mxs (x.tmod 35, x.tmod 35) (pl c) (1, 1) (pws (x.tmod 35, x.tmod 35) (pl c).length (pl c).length) (pl c).length).length).2)]) (by kernel_rfl) (fun _ _ => by kernel_rfl) ?_
  refine S_val (.int .i64 0) (by kernel_rfl) (fun _ _ => by kernel_rfl) ?_
  refine S_newv (fun nb0 => .pointer (some ⟨nb0, 0, none⟩)) [.int .i64 0, .int .i64 0] 85 (by kernel_rfl) (fun w _ => by kernel_rfl) ?_
  intro b28 hb28 Hb28
  refine S_do (by kernel_rfl) (stN (L' := [⟨b28, [.int .i64 ((inp (mxs (x.tmod 35, x.tmod 35) (pl c) (1, 1) (pws (x.tmod 35, x.tmod 35) (pl c).length (pl c).length) (pl c).length) (pl c) (mxs (x.tmod 35, x.tmod 35) (pl c) (1, 1) (pws (x.tmod 35, x.tmod 35) (pl c).length (pl c).length) (pl c).length).length).1), .int .i64 ((inp (mxs (x.tmod 35, x.tmod 35) (pl c) (1, 1) (pws (x.tmod 35, x.tmod 35) (pl c).length (pl c).length) (pl c).length) (pl c) (mxs (x.tmod 35, x.tmod 35) (pl c) (1, 1) (pws (x.tmod 35, x.tmod 35) (pl c).length (pl c).length) (pl c).length).length).2)], 85⟩, ⟨b22, [.int .i64 ((inp (pws (x.tmod 35, x.tmod 35) (pl c).length (pl c).length) (pl c) (pws (x.tmod 35, x.tmod 35) (pl c).length (pl c).length).length).1), .int .i64 ((inp (pws (x.tmod 35, x.tmod 35) (pl c).length (pl c).length) (pl c) (pws (x.tmod 35, x.tmod 35) (pl c).length (pl c).length).length).2)], 85⟩, ⟨b11, [.int .i64 (x.tmod 35), .int .i64 (x.tmod 35)], 85⟩] ++ ob2 ++ ob7 ++ ob13 ++ ob18 ++ ob24) [.int .i64 ((inp (mxs (x.tmod 35, x.tmod 35) (pl c) (1, 1) (pws (x.tmod 35, x.tmod 35) (pl c).length (pl c).length) (pl c).length) (pl c) (mxs (x.tmod 35, x.tmod 35) (pl c) (1, 1) (pws (x.tmod 35, x.tmod 35) (pl c).length (pl c).length) (pl c).length).length).1), .int .i64 ((inp (mxs (x.tmod 35, x.tmod 35) (pl c) (1, 1) (pws (x.tmod 35, x.tmod 35) (pl c).length (pl c).length) (pl c).length) (pl c) (mxs (x.tmod 35, x.tmod 35) (pl c) (1, 1) (pws (x.tmod 35, x.tmod 35) (pl c).length (pl c).length) (pl c).length).length).2)] 0 b28 0 [.int .i64 0, .int .i64 0] 85 rfl (by kernel_rfl) (by kernel_rfl) Try.sizeOf85 (by simp [Value.oneCell']) (by kernel_rfl) (by simp) (by kernel_rfl)) ?_
  refine S_val (.int .i64 0) (by kernel_rfl) (fun _ _ => by kernel_rfl) ?_
  refine S_nil ?_
  refine E_then ?_
  refine C_seq ?_
  refine C_region ?_
  refine S_val (.slice ao4 ((pl c).length) cap5) (by kernel_rfl) (fun _ _ => by kernel_rfl) ?_
  refine S_val (.slice ao4 ((pl c).length) cap5) (by kernel_rfl) (fun _ _ => by kernel_rfl) ?_
  refine S_call (by kernel_rfl) (fun _ _ => by kernel_rfl) (fun w hO => ((c_innerp w _ _ (pl c) (pl c) (Rw.rd' fp_len rfl hr3 hO ((((((List.sublist_append_right _ _).trans (List.sublist_append_left _ _)).trans (List.sublist_append_left _ _)).trans (List.sublist_append_left _ _)).trans (List.sublist_append_left _ _)))) (Rw.rd' fp_len rfl hr3 hO ((((((List.sublist_append_right _ _).trans (List.sublist_append_left _ _)).trans (List.sublist_append_left _ _)).trans (List.sublist_append_left _ _)).trans (List.sublist_append_left _ _)))) (by first | rfl | simp [pws_length, mxs_length]) (by (try simp only [pws_length, mxs_length]); omega))).mono fun _ _ ⟨he, hb⟩ => ⟨.tuple #[.agg #[.int .i64 ((inp (pl c) (pl c) (pl c).length).1), .int .i64 ((inp (pl c) (pl c) (pl c).length).2)], .int .i64 0], _, he, hO.call hb, ?_⟩)
  refine S_val (.tuple #[.agg #[.int .i64 ((inp (pl c) (pl c) (pl c).length).1), .int .i64 ((inp (pl c) (pl c) (pl c).length).2)], .int .i64 0]) (by kernel_rfl) (fun _ _ => by kernel_rfl) ?_
  refine S_val (.agg #[.int .i64 ((inp (pl c) (pl c) (pl c).length).1), .int .i64 ((inp (pl c) (pl c) (pl c).length).2)]) (by kernel_rfl) (fun _ _ => by kernel_rfl) ?_
  refine S_val (.int .i64 0) (by kernel_rfl) (fun _ _ => by kernel_rfl) ?_
  refine S_newv (fun nb0 => .pointer (some ⟨nb0, 0, none⟩)) [.int .i64 0, .int .i64 0] 85 (by kernel_rfl) (fun w _ => by kernel_rfl) ?_
  intro b29 hb29 Hb29
  refine S_do (by kernel_rfl) (stN (L' := [⟨b29, [.int .i64 ((inp (pl c) (pl c) (pl c).length).1), .int .i64 ((inp (pl c) (pl c) (pl c).length).2)], 85⟩, ⟨b28, [.int .i64 ((inp (mxs (x.tmod 35, x.tmod 35) (pl c) (1, 1) (pws (x.tmod 35, x.tmod 35) (pl c).length (pl c).length) (pl c).length) (pl c) (mxs (x.tmod 35, x.tmod 35) (pl c) (1, 1) (pws (x.tmod 35, x.tmod 35) (pl c).length (pl c).length) (pl c).length).length).1), .int .i64 ((inp (mxs (x.tmod 35, x.tmod 35) (pl c) (1, 1) (pws (x.tmod 35, x.tmod 35) (pl c).length (pl c).length) (pl c).length) (pl c) (mxs (x.tmod 35, x.tmod 35) (pl c) (1, 1) (pws (x.tmod 35, x.tmod 35) (pl c).length (pl c).length) (pl c).length).length).2)], 85⟩, ⟨b22, [.int .i64 ((inp (pws (x.tmod 35, x.tmod 35) (pl c).length (pl c).length) (pl c) (pws (x.tmod 35, x.tmod 35) (pl c).length (pl c).length).length).1), .int .i64 ((inp (pws (x.tmod 35, x.tmod 35) (pl c).length (pl c).length) (pl c) (pws (x.tmod 35, x.tmod 35) (pl c).length (pl c).length).length).2)], 85⟩, ⟨b11, [.int .i64 (x.tmod 35), .int .i64 (x.tmod 35)], 85⟩] ++ ob2 ++ ob7 ++ ob13 ++ ob18 ++ ob24) [.int .i64 ((inp (pl c) (pl c) (pl c).length).1), .int .i64 ((inp (pl c) (pl c) (pl c).length).2)] 0 b29 0 [.int .i64 0, .int .i64 0] 85 rfl (by kernel_rfl) (by kernel_rfl) Try.sizeOf85 (by simp [Value.oneCell']) (by kernel_rfl) (by simp) (by kernel_rfl)) ?_
  refine S_val (.int .i64 0) (by kernel_rfl) (fun _ _ => by kernel_rfl) ?_
  refine S_nil ?_
  refine E_then ?_
  refine C_seq ?_
  refine C_region ?_
  refine S_val (.slice ao20 ((pl c).length) cap21) (by kernel_rfl) (fun _ _ => by kernel_rfl) ?_
  refine S_val (.slice ao4 ((pl c).length) cap5) (by kernel_rfl) (fun _ _ => by kernel_rfl) ?_
  refine S_call (by kernel_rfl) (fun _ _ => by kernel_rfl) (fun w hO => ((c_innerp w _ _ (pws (x.tmod 35, x.tmod 35) (pl c).length (pl c).length) (pl c) (Rw.rd' fp_len (pws_length _ _ _) hr19 hO (((List.sublist_append_right _ _).trans (List.sublist_append_left _ _)))) (Rw.rd' fp_len rfl hr3 hO ((((((List.sublist_append_right _ _).trans (List.sublist_append_left _ _)).trans (List.sublist_append_left _ _)).trans (List.sublist_append_left _ _)).trans (List.sublist_append_left _ _)))) (by first | rfl | simp [pws_length, mxs_length]) (by (try simp only [pws_length, mxs_length]); omega))).mono fun _ _ ⟨he, hb⟩ => ⟨.tuple #[.agg #[.int .i64 ((inp (pws (x.tmod 35, x.tmod 35) (pl c).length (pl c).length) (pl c) (pws (x.tmod 35, x.tmod 35) (pl c).length (pl c).length).length).1), .int .i64 ((inp (pws (x.tmod 35, x.tmod 35) (pl c).length (pl c).length) (pl c) (pws (x.tmod 35, x.tmod 35) (pl c).length (pl c).length).length).2)], .int .i64 0], _, he, hO.call hb, ?_⟩)
  refine S_val (.tuple #[.agg #[.int .i64 ((inp (pws (x.tmod 35, x.tmod 35) (pl c).length (pl c).length) (pl c) (pws (x.tmod 35, x.tmod 35) (pl c).length (pl c).length).length).1), .int .i64 ((inp (pws (x.tmod 35, x.tmod 35) (pl c).length (pl c).length) (pl c) (pws (x.tmod 35, x.tmod 35) (pl c).length (pl c).length).length).2)], .int .i64 0]) (by kernel_rfl) (fun _ _ => by kernel_rfl) ?_
  refine S_val (.agg #[.int .i64 ((inp (pws (x.tmod 35, x.tmod 35) (pl c).length (pl c).length) (pl c) (pws (x.tmod 35, x.tmod 35) (pl c).length (pl c).length).length).1), .int .i64 ((inp (pws (x.tmod 35, x.tmod 35) (pl c).length (pl c).length) (pl c) (pws (x.tmod 35, x.tmod 35) (pl c).length (pl c).length).length).2)]) (by kernel_rfl) (fun _ _ => by kernel_rfl) ?_
  refine S_val (.int .i64 0) (by kernel_rfl) (fun _ _ => by kernel_rfl) ?_
  refine S_newv (fun nb0 => .pointer (some ⟨nb0, 0, none⟩)) [.int .i64 0, .int .i64 0] 85 (by kernel_rfl) (fun w _ => by kernel_rfl) ?_
  intro b30 hb30 Hb30
  refine S_do (by kernel_rfl) (stN (L' := [⟨b30, [.int .i64 ((inp (pws (x.tmod 35, x.tmod 35) (pl c).length (pl c).length) (pl c) (pws (x.tmod 35, x.tmod 35) (pl c).length (pl c).length).length).1), .int .i64 ((inp (pws (x.tmod 35, x.tmod 35) (pl c).length (pl c).length) (pl c) (pws (x.tmod 35, x.tmod 35) (pl c).length (pl c).length).length).2)], 85⟩, ⟨b29, [.int .i64 ((inp (pl c) (pl c) (pl c).length).1), .int .i64 ((inp (pl c) (pl c) (pl c).length).2)], 85⟩, ⟨b28, [.int .i64 ((inp (mxs (x.tmod 35, x.tmod 35) (pl c) (1, 1) (pws (x.tmod 35, x.tmod 35) (pl c).length (pl c).length) (pl c).length) (pl c) (mxs (x.tmod 35, x.tmod 35) (pl c) (1, 1) (pws (x.tmod 35, x.tmod 35) (pl c).length (pl c).length) (pl c).length).length).1), .int .i64 ((inp (mxs (x.tmod 35, x.tmod 35) (pl c) (1, 1) (pws (x.tmod 35, x.tmod 35) (pl c).length (pl c).length) (pl c).length) (pl c) (mxs (x.tmod 35, x.tmod 35) (pl c) (1, 1) (pws (x.tmod 35, x.tmod 35) (pl c).length (pl c).length) (pl c).length).length).2)], 85⟩, ⟨b22, [.int .i64 ((inp (pws (x.tmod 35, x.tmod 35) (pl c).length (pl c).length) (pl c) (pws (x.tmod 35, x.tmod 35) (pl c).length (pl c).length).length).1), .int .i64 ((inp (pws (x.tmod 35, x.tmod 35) (pl c).length (pl c).length) (pl c) (pws (x.tmod 35, x.tmod 35) (pl c).length (pl c).length).length).2)], 85⟩, ⟨b11, [.int .i64 (x.tmod 35), .int .i64 (x.tmod 35)], 85⟩] ++ ob2 ++ ob7 ++ ob13 ++ ob18 ++ ob24) [.int .i64 ((inp (pws (x.tmod 35, x.tmod 35) (pl c).length (pl c).length) (pl c) (pws (x.tmod 35, x.tmod 35) (pl c).length (pl c).length).length).1), .int .i64 ((inp (pws (x.tmod 35, x.tmod 35) (pl c).length (pl c).length) (pl c) (pws (x.tmod 35, x.tmod 35) (pl c).length (pl c).length).length).2)] 0 b30 0 [.int .i64 0, .int .i64 0] 85 rfl (by kernel_rfl) (by kernel_rfl) Try.sizeOf85 (by simp [Value.oneCell']) (by kernel_rfl) (by simp) (by kernel_rfl)) ?_
  refine S_val (.int .i64 0) (by kernel_rfl) (fun _ _ => by kernel_rfl) ?_
  refine S_nil ?_
  refine E_then ?_
  refine C_seq ?_
  refine C_drawn [.pure, .pure, .pure, .pure, .pure, .pure, .pure, .pure, .pure, .pure, .pure, .held, .held, .held, .held, .held, .held, .held, .held, .pure, .pure] (by kernel_rfl) (by kernel_rfl) ?_
  refine D_val (.int .i64 0) (by kernel_rfl) (fun _ => by kernel_rfl) ?_
  refine D_val (.bool true) (by kernel_rfl) (fun _ => by kernel_rfl) ?_
  refine D_val (.bool true) (by kernel_rfl) (fun _ => by kernel_rfl) ?_
  refine D_val (.int .i64 0) (by kernel_rfl) (fun _ => by kernel_rfl) ?_
  refine D_val (.bool true) (by kernel_rfl) (fun _ => by kernel_rfl) ?_
  refine D_val (.bool true) (by kernel_rfl) (fun _ => by kernel_rfl) ?_
  refine D_val (.bool true) (by kernel_rfl) (fun _ => by kernel_rfl) ?_
  refine D_val (.int .i64 0) (by kernel_rfl) (fun _ => by kernel_rfl) ?_
  refine D_val (.bool true) (by kernel_rfl) (fun _ => by kernel_rfl) ?_
  refine D_val (.bool true) (by kernel_rfl) (fun _ => by kernel_rfl) ?_
  refine D_val (.bool true) (by kernel_rfl) (fun _ => by kernel_rfl) ?_
  refine D_held (.agg #[.int .i64 ((inp (mxs (x.tmod 35, x.tmod 35) (pl c) (1, 1) (pws (x.tmod 35, x.tmod 35) (pl c).length (pl c).length) (pl c).length) (pl c) (mxs (x.tmod 35, x.tmod 35) (pl c) (1, 1) (pws (x.tmod 35, x.tmod 35) (pl c).length (pl c).length) (pl c).length).length).1), .int .i64 ((inp (mxs (x.tmod 35, x.tmod 35) (pl c) (1, 1) (pws (x.tmod 35, x.tmod 35) (pl c).length (pl c).length) (pl c).length) (pl c) (mxs (x.tmod 35, x.tmod 35) (pl c) (1, 1) (pws (x.tmod 35, x.tmod 35) (pl c).length (pl c).length) (pl c).length).length).2)]) (by kernel_rfl) (ldN [.int .i64 ((inp (mxs (x.tmod 35, x.tmod 35) (pl c) (1, 1) (pws (x.tmod 35, x.tmod 35) (pl c).length (pl c).length) (pl c).length) (pl c) (mxs (x.tmod 35, x.tmod 35) (pl c) (1, 1) (pws (x.tmod 35, x.tmod 35) (pl c).length (pl c).length) (pl c).length).length).1), .int .i64 ((inp (mxs (x.tmod 35, x.tmod 35) (pl c) (1, 1) (pws (x.tmod 35, x.tmod 35) (pl c).length (pl c).length) (pl c).length) (pl c) (mxs (x.tmod 35, x.tmod 35) (pl c) (1, 1) (pws (x.tmod 35, x.tmod 35) (pl c).length (pl c).length) (pl c).length).length).2)] 2 b28 0 [.int .i64 ((inp (mxs (x.tmod 35, x.tmod 35) (pl c) (1, 1) (pws (x.tmod 35, x.tmod 35) (pl c).length (pl c).length) (pl c).length) (pl c) (mxs (x.tmod 35, x.tmod 35) (pl c) (1, 1) (pws (x.tmod 35, x.tmod 35) (pl c).length (pl c).length) (pl c).length).length).1), .int .i64 ((inp (mxs (x.tmod 35, x.tmod 35) (pl c) (1, 1) (pws (x.tmod 35, x.tmod 35) (pl c).length (pl c).length) (pl c).length) (pl c) (mxs (x.tmod 35, x.tmod 35) (pl c) (1, 1) (pws (x.tmod 35, x.tmod 35) (pl c).length (pl c).length) (pl c).length).length).2)] 85 rfl (by kernel_rfl) Try.isAgg85 Try.sizeOf85 (by kernel_rfl) (by kernel_rfl)) ?_
  refine D_held (.agg #[.int .i64 (x.tmod 35), .int .i64 (x.tmod 35)]) (by kernel_rfl) (ldN [.int .i64 (x.tmod 35), .int .i64 (x.tmod 35)] 4 b11 0 [.int .i64 (x.tmod 35), .int .i64 (x.tmod 35)] 85 rfl (by kernel_rfl) Try.isAgg85 Try.sizeOf85 (by kernel_rfl) (by kernel_rfl)) ?_
  refine D_held (.agg #[.int .i64 ((inp (pl c) (pl c) (pl c).length).1), .int .i64 ((inp (pl c) (pl c) (pl c).length).2)]) (by kernel_rfl) (ldN [.int .i64 ((inp (pl c) (pl c) (pl c).length).1), .int .i64 ((inp (pl c) (pl c) (pl c).length).2)] 1 b29 0 [.int .i64 ((inp (pl c) (pl c) (pl c).length).1), .int .i64 ((inp (pl c) (pl c) (pl c).length).2)] 85 rfl (by kernel_rfl) Try.isAgg85 Try.sizeOf85 (by kernel_rfl) (by kernel_rfl)) ?_
  refine D_pure (v := .agg #[.int .i64 ((pm (x.tmod 35, x.tmod 35) (inp (pl c) (pl c) (pl c).length)).1), .int .i64 ((pm (x.tmod 35, x.tmod 35) (inp (pl c) (pl c) (pl c).length)).2)]) (by kernel_rfl) (c_pmul (x.tmod 35, x.tmod 35) (inp (pl c) (pl c) (pl c).length)) (fun _ => by kernel_rfl) ?_
  refine D_held (.agg #[.int .i64 ((inp (pws (x.tmod 35, x.tmod 35) (pl c).length (pl c).length) (pl c) (pws (x.tmod 35, x.tmod 35) (pl c).length (pl c).length).length).1), .int .i64 ((inp (pws (x.tmod 35, x.tmod 35) (pl c).length (pl c).length) (pl c) (pws (x.tmod 35, x.tmod 35) (pl c).length (pl c).length).length).2)]) (by kernel_rfl) (ldN [.int .i64 ((inp (pws (x.tmod 35, x.tmod 35) (pl c).length (pl c).length) (pl c) (pws (x.tmod 35, x.tmod 35) (pl c).length (pl c).length).length).1), .int .i64 ((inp (pws (x.tmod 35, x.tmod 35) (pl c).length (pl c).length) (pl c) (pws (x.tmod 35, x.tmod 35) (pl c).length (pl c).length).length).2)] 0 b30 0 [.int .i64 ((inp (pws (x.tmod 35, x.tmod 35) (pl c).length (pl c).length) (pl c) (pws (x.tmod 35, x.tmod 35) (pl c).length (pl c).length).length).1), .int .i64 ((inp (pws (x.tmod 35, x.tmod 35) (pl c).length (pl c).length) (pl c) (pws (x.tmod 35, x.tmod 35) (pl c).length (pl c).length).length).2)] 85 rfl (by kernel_rfl) Try.isAgg85 Try.sizeOf85 (by kernel_rfl) (by kernel_rfl)) ?_
  refine D_pure (v := .agg #[.int .i64 ((pa (pm (x.tmod 35, x.tmod 35) (inp (pl c) (pl c) (pl c).length)) (inp (pws (x.tmod 35, x.tmod 35) (pl c).length (pl c).length) (pl c) (pws (x.tmod 35, x.tmod 35) (pl c).length (pl c).length).length)).1), .int .i64 ((pa (pm (x.tmod 35, x.tmod 35) (inp (pl c) (pl c) (pl c).length)) (inp (pws (x.tmod 35, x.tmod 35) (pl c).length (pl c).length) (pl c) (pws (x.tmod 35, x.tmod 35) (pl c).length (pl c).length).length)).2)]) (by kernel_rfl) (c_padd (pm (x.tmod 35, x.tmod 35) (inp (pl c) (pl c) (pl c).length)) (inp (pws (x.tmod 35, x.tmod 35) (pl c).length (pl c).length) (pl c) (pws (x.tmod 35, x.tmod 35) (pl c).length (pl c).length).length)) (fun _ => by kernel_rfl) ?_
  refine D_pure (v := .agg #[.int .i64 ((ps (inp (mxs (x.tmod 35, x.tmod 35) (pl c) (1, 1) (pws (x.tmod 35, x.tmod 35) (pl c).length (pl c).length) (pl c).length) (pl c) (mxs (x.tmod 35, x.tmod 35) (pl c) (1, 1) (pws (x.tmod 35, x.tmod 35) (pl c).length (pl c).length) (pl c).length).length) (pa (pm (x.tmod 35, x.tmod 35) (inp (pl c) (pl c) (pl c).length)) (inp (pws (x.tmod 35, x.tmod 35) (pl c).length (pl c).length) (pl c) (pws (x.tmod 35, x.tmod 35) (pl c).length (pl c).length).length))).1), .int .i64 ((ps (inp (mxs (x.tmod 35, x.tmod 35) (pl c) (1, 1) (pws (x.tmod 35, x.tmod 35) (pl c).length (pl c).length) (pl c).length) (pl c) (mxs (x.tmod 35, x.tmod 35) (pl c) (1, 1) (pws (x.tmod 35, x.tmod 35) (pl c).length (pl c).length) (pl c).length).length) (pa (pm (x.tmod 35, x.tmod 35) (inp (pl c) (pl c) (pl c).length)) (inp (pws (x.tmod 35, x.tmod 35) (pl c).length (pl c).length) (pl c) (pws (x.tmod 35, x.tmod 35) (pl c).length (pl c).length).length))).2)]) (by kernel_rfl) (c_psub (inp (mxs (x.tmod 35, x.tmod 35) (pl c) (1, 1) (pws (x.tmod 35, x.tmod 35) (pl c).length (pl c).length) (pl c).length) (pl c) (mxs (x.tmod 35, x.tmod 35) (pl c) (1, 1) (pws (x.tmod 35, x.tmod 35) (pl c).length (pl c).length) (pl c).length).length) (pa (pm (x.tmod 35, x.tmod 35) (inp (pl c) (pl c) (pl c).length)) (inp (pws (x.tmod 35, x.tmod 35) (pl c).length (pl c).length) (pl c) (pws (x.tmod 35, x.tmod 35) (pl c).length (pl c).length).length))) (fun _ => by kernel_rfl) ?_
  refine D_pure (v := .bool (pzero (ps (inp (mxs (x.tmod 35, x.tmod 35) (pl c) (1, 1) (pws (x.tmod 35, x.tmod 35) (pl c).length (pl c).length) (pl c).length) (pl c) (mxs (x.tmod 35, x.tmod 35) (pl c) (1, 1) (pws (x.tmod 35, x.tmod 35) (pl c).length (pl c).length) (pl c).length).length) (pa (pm (x.tmod 35, x.tmod 35) (inp (pl c) (pl c) (pl c).length)) (inp (pws (x.tmod 35, x.tmod 35) (pl c).length (pl c).length) (pl c) (pws (x.tmod 35, x.tmod 35) (pl c).length (pl c).length).length))))) (by kernel_rfl) (c_pzero (ps (inp (mxs (x.tmod 35, x.tmod 35) (pl c) (1, 1) (pws (x.tmod 35, x.tmod 35) (pl c).length (pl c).length) (pl c).length) (pl c) (mxs (x.tmod 35, x.tmod 35) (pl c) (1, 1) (pws (x.tmod 35, x.tmod 35) (pl c).length (pl c).length) (pl c).length).length) (pa (pm (x.tmod 35, x.tmod 35) (inp (pl c) (pl c) (pl c).length)) (inp (pws (x.tmod 35, x.tmod 35) (pl c).length (pl c).length) (pl c) (pws (x.tmod 35, x.tmod 35) (pl c).length (pl c).length).length)))) (fun _ => by kernel_rfl) ?_
  refine D_val (.bool (pzero (ps (inp (mxs (x.tmod 35, x.tmod 35) (pl c) (1, 1) (pws (x.tmod 35, x.tmod 35) (pl c).length (pl c).length) (pl c).length) (pl c) (mxs (x.tmod 35, x.tmod 35) (pl c) (1, 1) (pws (x.tmod 35, x.tmod 35) (pl c).length (pl c).length) (pl c).length).length) (pa (pm (x.tmod 35, x.tmod 35) (inp (pl c) (pl c) (pl c).length)) (inp (pws (x.tmod 35, x.tmod 35) (pl c).length (pl c).length) (pl c) (pws (x.tmod 35, x.tmod 35) (pl c).length (pl c).length).length))))) (by kernel_rfl) (fun _ => by kernel_rfl) ?_
  refine D_val (.bool true) (by kernel_rfl) (fun _ => fv (v := .bool (pzero (ps (inp (mxs (x.tmod 35, x.tmod 35) (pl c) (1, 1) (pws (x.tmod 35, x.tmod 35) (pl c).length (pl c).length) (pl c).length) (pl c) (mxs (x.tmod 35, x.tmod 35) (pl c) (1, 1) (pws (x.tmod 35, x.tmod 35) (pl c).length (pl c).length) (pl c).length).length) (pa (pm (x.tmod 35, x.tmod 35) (inp (pl c) (pl c) (pl c).length)) (inp (pws (x.tmod 35, x.tmod 35) (pl c).length (pl c).length) (pl c) (pws (x.tmod 35, x.tmod 35) (pl c).length (pl c).length).length))))) (vbool (ring3 (pl c) (pws (x.tmod 35, x.tmod 35) (pl c).length (pl c).length) (x.tmod 35, x.tmod 35) (pws_length _ _ _))) (by kernel_rfl)) ?_
  refine D_nil ?_
  refine E_then ?_
  refine C_ret ?_
  exact pure_ret rfl (res1 Try.results9 (by kernel_rfl))
end Go.Vk
