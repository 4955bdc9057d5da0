/- What functions of the program do: walks, printed by a program of my own. -/
import Derived.Test.YtalnkpdahpjmmaaDoorDBo
set_option linter.unusedVariables false
set_option linter.unusedSimpArgs false
namespace Go.Vk
open Go Go.RowKit Go.Proofs Go.Vk.Num
set_option linter.unusedVariables false
set_option maxHeartbeats 4000000 in
theorem c_both (w0 : World) (hT : GV 0 tbS w0) (va vb : Value) (zs : List Nat) (ys : List F5) (hzs : ∀ j, zs.getD j 0 < W256) (hys : ∀ j, (ys.getD j F5.z).ok) (hva : Rd w0 va 4 fs4 zs) (hvb : Rd w0 vb 5 ff5 ys) (hca : ∃ ao cap, va = .slice ao zs.length cap ∧ zs.length ≤ cap) : Calls Tryd.prog 3 #[va, vb] w0 fun e w' => e = .returned (.bool true) ∧ Below w0.heap.size w0 w' := by
  obtain ⟨v', hcut, hcutr⟩ := c_cut va zs.length hca
  obtain ⟨ao2, cap2, rfl, hy⟩ := hvb.o
  obtain ⟨X, hX⟩ : ∃ X, X = zs.take 40 := ⟨_, rfl⟩
  have hX40 : X.length ≤ 40 := by rw [hX, List.length_take]; omega
  have hXs : ∀ j, X.getD j 0 < W256 := by rw [hX]; exact getD_take (p := fun x => x < W256) (by decide) hzs 40
  refine calls_start Tryd.func3 rfl ?_
  refine C_seq ?_
  refine C_region ?_
  refine S_v (.bool false) ?_
  refine S_nil ?_
  refine E_then ?_
  refine C_seq ?_
  refine C_seq ?_
  refine C_region ?_
  refine S_pure (v := .bool true) (by kernel_rfl) c_alive (fun _ => by kernel_rfl) ?_
  refine S_v (.bool false) ?_
  refine S_nil ?_
  refine E_then ?_
  refine C_false (by kernel_rfl) ?_
  refine C_skip ?_
  refine E_then ?_
  refine C_seq ?_
  refine C_region ?_
  refine S_v (va) ?_
  refine S_pure (v := v') (by kernel_rfl) hcut (fun _ => by kernel_rfl) ?_
  refine S_gives (mk := fun v0 => v0) (by kernel_rfl) (fun _ _ => by kernel_rfl) (fun w hO => (c_own w v' X (by rw [hX]; exact hcutr w zs rfl (hva.own hO)) hX40)) ?_
  intro v1 ob2 hr3
  obtain ⟨ao4, cap5, rfl⟩ := hr3.len
  refine S_v (.slice ao4 X.length cap5) ?_
  refine S_nil ?_
  refine E_then ?_
  refine C_seq ?_
  refine C_region ?_
  refine S_v (.slice none 0 0) ?_
  refine S_nil ?_
  refine E_then ?_
  refine C_seq ?_
  refine C_seq ?_
  refine C_region ?_
  refine S_v (.int .i64 0) ?_
  refine S_nil ?_
  refine E_then ?_
  refine C_block ?_
  refine C_loop3 (fun (i : Nat) (v : Value) (ob : List B) => (i ≤ ys.length) ∧ (i ≤ 40) ∧ (Rw 31 5 v i ((ys.take i).flatMap ff5) ob)) (fun (i : Nat) (v : Value) (ob : List B) => fun g => ⟨#[g 0, .slice ao2 ys.length cap2, g 2, g 3, g 4, .slice ao4 X.length cap5, v, .int .i64 ((i : Nat) : Int), g 8, g 9, g 10, g 11, g 12, g 13, g 14, g 15, g 16, g 17, g 18, g 19, g 20, g 21, g 22, g 23, g 24, g 25, g 26, g 27, g 28, g 29, g 30, g 31, g 32, g 33, g 34, g 35, g 36, g 37, g 38, g 39, g 40, g 41, g 42, g 43, g 44, g 45, g 46, g 47, g 48, g 49, g 50, g 51, g 52, g 53, g 54, g 55, g 56, g 57, g 58, g 59, g 60, g 61, g 62, g 63, g 64, g 65, g 66, g 67, g 68, g 69, g 70, g 71, g 72, g 73, g 74, g 75, g 76, g 77, g 78, g 79, g 80, g 81, g 82, g 83, g 84, g 85, g 86, g 87, g 88, g 89, g 90, g 91, g 92, g 93, g 94, g 95, g 96, g 97, g 98, g 99, g 100, g 101, g 102, g 103, g 104, g 105, g 106, g 107, g 108, g 109, g 110, g 111, g 112, g 113, g 114, g 115, g 116, g 117, g 118, g 119, g 120, g 121, g 122, g 123, g 124, g 125, g 126, g 127, g 128, g 129, g 130, g 131, g 132, g 133, g 134, g 135, g 136, g 137, g 138, g 139, g 140, g 141, g 142, g 143, g 144, g 145, g 146, g 147, g 148, g 149, g 150, g 151, g 152, g 153, g 154, g 155, g 156, g 157, g 158, g 159, g 160, g 161, g 162, g 163, g 164, g 165, g 166], []⟩) (fun (i : Nat) (v : Value) (ob : List B) => [] ++ ob2 ++ ob) (fun (i : Nat) (v : Value) (ob : List B) => ys.length - i) 0 (.slice none 0 0) [] (by (try dsimp only); exact ⟨Nat.zero_le _, Nat.zero_le _, Rw.nil 31 5⟩) (by kernel_rfl) (by first | (dsimp only; done) | ((try dsimp only); simp)) ?_
  rintro i v ob g6 ⟨hi, hi40, hr⟩
  refine C_seq ?_
  refine C_seq ?_
  by_cases h1 : i < ys.length
  · refine C_region ?_
    refine S_v (.int .i64 ((i : Nat) : Int)) ?_
    refine S_v (.slice ao2 ys.length cap2) ?_
    refine S_v (.int .i64 ((ys.length : Nat) : Int)) ?_
    refine S_val (.bool true) (by kernel_rfl) (fun _ _ => fv (v := .bool (decide (((i : Nat) : Int) < ((ys.length : Nat) : Int)))) (vbool (decide_eq_true (by omega))) (by kernel_rfl)) ?_
    refine S_v (.bool true) ?_
    refine S_v (.int .i64 ((i : Nat) : Int)) ?_
    refine S_v (.bool (decide (((i : Nat) : Int) < 40))) ?_
    refine S_v (.bool (decide (((i : Nat) : Int) < 40))) ?_
    refine S_nil ?_
    refine E_then ?_
    refine C_if (decide (((i : Nat) : Int) < 40)) (by kernel_rfl) (fun h2 => ?_) (fun h2 => ?_)
    · replace h2 := of_decide_eq_true h2
      obtain ⟨bi7, oi8, rfl, hi9⟩ := hy.op (by omega)
      refine C_skip ?_
      refine E_then ?_
      refine C_seq ?_
      refine C_block ?_
      refine C_region ?_
      refine S_v (v) ?_
      refine S_v (.slice (some ⟨bi7, oi8, none⟩) ys.length cap2) ?_
      refine S_v (.int .i64 ((i : Nat) : Int)) ?_
      refine S_val (.pointer (some ⟨bi7, oi8 + i * 5, none⟩)) (by kernel_rfl) (fun w _ => (ixS (k := .i64) bi7 oi8 ys.length cap2 5 i rfl (by kernel_rfl) (by kernel_rfl) Tryd.underlying23 Tryd.sizeOf30 (by omega)) w) ?_
      refine S_val (F5.v (ys.getD i F5.z)) (by kernel_rfl) (ldR ff5_len F5.z i bi7 oi8 (oi8 + i * 5) hi9 rfl (by kernel_rfl) rfl (by omega) Tryd.isAgg30 Tryd.sizeOf30) ?_
      refine S_newv (fun nb0 => .slice (some ⟨nb0, 0, none⟩) 1 1) [wd ((ys.getD i F5.z).l0), wd ((ys.getD i F5.z).l1), wd ((ys.getD i F5.z).l2), wd ((ys.getD i F5.z).l3), wd ((ys.getD i F5.z).l4)] 31 (by kernel_rfl) (fun w _ => by kernel_rfl) ?_
      intro b10 hb10 Hb10
      refine S_app (sz := 5) (n := i + 1) (xs := ((ys.take i).flatMap ff5) ++ [wd ((ys.getD i F5.z).l0), wd ((ys.getD i F5.z).l1), wd ((ys.getD i F5.z).l2), wd ((ys.getD i F5.z).l3), wd ((ys.getD i F5.z).l4)]) (fun ob' => [⟨b10, [wd ((ys.getD i F5.z).l0), wd ((ys.getD i F5.z).l1), wd ((ys.getD i F5.z).l2), wd ((ys.getD i F5.z).l3), wd ((ys.getD i F5.z).l4)], 31⟩] ++ ob2 ++ ob') (by intro ob'; simp) (by kernel_rfl) (up_app (L1 := [⟨b10, [wd ((ys.getD i F5.z).l0), wd ((ys.getD i F5.z).l1), wd ((ys.getD i F5.z).l2), wd ((ys.getD i F5.z).l3), wd ((ys.getD i F5.z).l4)], 31⟩] ++ ob2) (ob := ob) (L2 := []) (n := i) (xs := ((ys.take i).flatMap ff5)) 28 31 Tryd.t31 (.agg #[.int .u64 0, .int .u64 0, .int .u64 0, .int .u64 0, .int .u64 0]) Tryd.underlying28 (by kernel_rfl) (by kernel_rfl) (by kernel_rfl) rfl hr (by simp) ⟨b10, 0, none⟩ 1 1 [wd ((ys.getD i F5.z).l0), wd ((ys.getD i F5.z).l1), wd ((ys.getD i F5.z).l2), wd ((ys.getD i F5.z).l3), wd ((ys.getD i F5.z).l4)] (by kernel_rfl) (by kernel_rfl) (by kernel_rfl) (fun w hO j9 u9 hu => by rw [add_none, Nat.zero_add, hO.cellAt 0 (b := b10) (cs := [wd ((ys.getD i F5.z).l0), wd ((ys.getD i F5.z).l1), wd ((ys.getD i F5.z).l2), wd ((ys.getD i F5.z).l3), wd ((ys.getD i F5.z).l4)]) (ty := 31) (by kernel_rfl)]; exact hu) (by simp [Value.oneCell']) (by decide) (by simp only [Tryd.t31]; omega) (le_maxLen (by omega))) ?_
      intro v11 ob12 hr13
      replace hr13 : Rw 31 5 v11 (i + 1) (((ys.take i) ++ [(ys.getD i F5.z)]).flatMap ff5) ob12 := by first | exact hr13 | (rw [List.flatMap_append]; exact hr13)
      refine S_v (v11) ?_
      refine S_nil ?_
      refine E_inblock ?_
      refine E_then ?_
      refine C_region ?_
      refine S_v (.int .i64 ((i : Nat) : Int)) ?_
      refine S_val (.int .i64 ((i + 1 : Nat) : Int)) (by kernel_rfl) (fun _ _ => fv (v := .int .i64 (IntKind.i64.wrap (((i : Nat) : Int) + 1))) (vint (w64 (by omega) (by omega) (by omega))) (by kernel_rfl)) ?_
      refine S_v (.int .i64 ((i + 1 : Nat) : Int)) ?_
      refine S_nil ?_
      exact E_norm (fun w hw => ⟨i + 1, v11, ob12, ⟨by omega, by omega, by rw [take_snoc _ h1 F5.z]; exact hr13⟩, (by kernel_rfl), (by (try dsimp only); omega), hw.tail⟩)
    · replace h2 := of_decide_eq_false h2
      have e : ys.take i = ys.take 40 := take_eq (by omega)
      obtain ⟨Y, hY⟩ : ∃ Y, Y = ys.take 40 := ⟨_, rfl⟩
      have hYl : i = Y.length := by rw [hY, List.length_take]; omega
      rw [e, ← hY] at hr
      clear e
      subst hYl
      have hY40 : Y.length ≤ 40 := hi40
      have hYs : ∀ j, (Y.getD j F5.z).ok := by rw [hY]; exact getD_take F5.z_ok hys 40
      clear hY hi hi40
      obtain ⟨aoq, capq, rfl⟩ := hr.len
      refine C_exit ?_
      refine E_pass_exit ?_
      refine E_pass_exit ?_
      refine E_outblock ?_
      refine E_then ?_
      refine C_seq ?_
      refine C_region ?_
      refine S_v (.slice ao4 X.length cap5) ?_
      refine S_gives (mk := fun v0 => v0) (by kernel_rfl) (fun _ _ => by kernel_rfl) (fun w hO => (c_sinvall' w (hT.own hO) (.slice ao4 X.length cap5) X X.length rfl hXs (Rw.rd' fs4_len rfl hr3 hO (((List.sublist_append_right (([] : List B)) ob2).trans (List.sublist_append_left (([] : List B) ++ ob2) ob)))) (by omega))) ?_
      intro v14 ob15 hr16
      obtain ⟨ao17, cap18, rfl⟩ := hr16.len
      refine S_v (.slice ao17 X.length cap18) ?_
      refine S_nil ?_
      refine E_then ?_
      refine C_seq ?_
      refine C_region ?_
      refine S_v (.slice aoq Y.length capq) ?_
      refine S_gives (mk := fun v0 => v0) (by kernel_rfl) (fun _ _ => by kernel_rfl) (fun w hO => (c_finvall' w (.slice aoq Y.length capq) Y Y.length rfl hYs (Rw.rd' ff5_len rfl hr hO (((List.sublist_append_right (([] : List B) ++ ob2) ob).trans (List.sublist_append_left (([] : List B) ++ ob2 ++ ob) ob15)))) (by omega))) ?_
      intro v19 ob20 hr21
      obtain ⟨ao22, cap23, rfl⟩ := hr21.len
      refine S_v (.slice ao22 Y.length cap23) ?_
      refine S_nil ?_
      refine E_then ?_
      refine C_seq ?_
      refine C_seq ?_
      refine C_region ?_
      refine S_v (.slice ao17 X.length cap18) ?_
      refine S_v (.int .i64 ((X.length : Nat) : Int)) ?_
      refine S_v (.slice ao4 X.length cap5) ?_
      refine S_v (.int .i64 ((X.length : Nat) : Int)) ?_
      refine S_val (.bool false) (by kernel_rfl) (fun _ _ => fv (v := .bool (((X.length : Nat) : Int) != ((X.length : Nat) : Int))) (vbool (bne_eq_false_iff_eq.2 (by omega))) (by kernel_rfl)) ?_
      refine S_v (.bool false) ?_
      refine S_v (.slice ao22 Y.length cap23) ?_
      refine S_v (.int .i64 ((Y.length : Nat) : Int)) ?_
      refine S_v (.slice aoq Y.length capq) ?_
      refine S_v (.int .i64 ((Y.length : Nat) : Int)) ?_
      refine S_val (.bool false) (by kernel_rfl) (fun _ _ => fv (v := .bool (((Y.length : Nat) : Int) != ((Y.length : Nat) : Int))) (vbool (bne_eq_false_iff_eq.2 (by omega))) (by kernel_rfl)) ?_
      refine S_v (.bool false) ?_
      refine S_nil ?_
      refine E_then ?_
      refine C_false (by kernel_rfl) ?_
      refine C_skip ?_
      refine E_then ?_
      refine C_seq ?_
      refine C_region ?_
      refine S_v (.slice none 0 0) ?_
      refine S_nil ?_
      refine E_then ?_
      refine C_seq ?_
      refine C_seq ?_
      refine C_region ?_
      refine S_v (.int .i64 0) ?_
      refine S_nil ?_
      refine E_then ?_
      refine C_block ?_
      refine C_loop1 (fun (i : Nat) => (i ≤ X.length)) (fun (i : Nat) => fun g => ⟨#[g 0, g 1, g 2, g 3, g 4, .slice ao4 X.length cap5, .slice aoq Y.length capq, g 7, .slice ao17 X.length cap18, .slice ao22 Y.length cap23, .slice none 0 0, .int .i64 ((i : Nat) : Int), g 12, g 13, g 14, g 15, g 16, g 17, g 18, g 19, g 20, g 21, g 22, g 23, g 24, g 25, g 26, g 27, g 28, g 29, g 30, g 31, g 32, g 33, g 34, g 35, g 36, g 37, g 38, g 39, g 40, g 41, g 42, g 43, g 44, g 45, g 46, g 47, g 48, g 49, g 50, g 51, g 52, g 53, g 54, g 55, g 56, g 57, g 58, g 59, g 60, g 61, g 62, g 63, g 64, g 65, g 66, g 67, g 68, g 69, g 70, g 71, g 72, g 73, g 74, g 75, g 76, g 77, g 78, g 79, g 80, g 81, g 82, g 83, g 84, g 85, g 86, g 87, g 88, g 89, g 90, g 91, g 92, g 93, g 94, g 95, g 96, g 97, g 98, g 99, g 100, g 101, g 102, g 103, g 104, g 105, g 106, g 107, g 108, g 109, g 110, g 111, g 112, g 113, g 114, g 115, g 116, g 117, g 118, g 119, g 120, g 121, g 122, g 123, g 124, g 125, g 126, g 127, g 128, g 129, g 130, g 131, g 132, g 133, g 134, g 135, g 136, g 137, g 138, g 139, g 140, g 141, g 142, g 143, g 144, g 145, g 146, g 147, g 148, g 149, g 150, g 151, g 152, g 153, g 154, g 155, g 156, g 157, g 158, g 159, g 160, g 161, g 162, g 163, g 164, g 165, g 166], []⟩) (fun (i : Nat) => [] ++ ob2 ++ ob ++ ob15 ++ ob20) (fun (i : Nat) => X.length - i) 0 (by (try dsimp only); exact Nat.zero_le _) (by kernel_rfl) (by first | (dsimp only; done) | ((try dsimp only); kernel_rfl)) ?_
      rintro i g24 hi
      refine C_seq ?_
      refine C_seq ?_
      refine C_region ?_
      refine S_v (.int .i64 ((i : Nat) : Int)) ?_
      refine S_v (.slice ao4 X.length cap5) ?_
      refine S_v (.int .i64 ((X.length : Nat) : Int)) ?_
      refine S_v (.bool (decide (((i : Nat) : Int) < ((X.length : Nat) : Int)))) ?_
      refine S_nil ?_
      refine E_then ?_
      refine C_if (decide (((i : Nat) : Int) < ((X.length : Nat) : Int))) (by kernel_rfl) (fun hc => ?_) (fun hc => ?_)
      · replace hc := of_decide_eq_true hc
        obtain ⟨g25, cap26, sp27, eg25, _⟩ := Rw.op' rfl hr3 (by omega)
        cases eg25
        obtain ⟨g28, cap29, sp30, eg28, _⟩ := Rw.op' (ill_length _ _ _ _ _ _ _) hr16 (by omega)
        cases eg28
        refine C_skip ?_
        refine E_then ?_
        refine C_seq ?_
        refine C_block ?_
        refine C_seq ?_
        by_cases hz : szr (X.getD i 0) = true
        · refine C_drawn [.pure, .pure, .pure, .held, .pure, .pure, .pure, .held, .held, .held, .pure, .pure, .pure, .pure, .pure, .held, .held, .pure, .pure, .pure, .held, .held, .pure, .pure, .pure, .pure, .pure, .pure, .held, .held, .pure, .pure, .pure, .pure, .pure, .pure, .pure, .pure, .pure, .pure, .pure, .pure, .pure, .pure, .pure, .pure] (by kernel_rfl) (by kernel_rfl) ?_
          refine D_v (.slice (some ⟨g28, 0, none⟩) X.length cap18) ?_
          refine D_v (.int .i64 ((i : Nat) : Int)) ?_
          refine D_val (.pointer (some ⟨g28, 0 + i * 4, none⟩)) (by kernel_rfl) (ixS (k := .i64) g28 0 X.length cap18 4 i rfl (by kernel_rfl) (by kernel_rfl) Tryd.underlying25 Tryd.sizeOf34 (by omega)) ?_
          refine D_held (sc4 ((sll X X.length).getD i 0)) (by kernel_rfl) (ldW fs4_len 0 i g28 0 (0 + i * 4) (fun w hO => Rd.rdB (cap := cap18) (len := X.length) (Rw.rd' fs4_len (ill_length _ _ _ _ _ _ _) hr16 hO (((List.sublist_append_right (([] : List B) ++ ob2 ++ ob) ob15).trans (List.sublist_append_left (([] : List B) ++ ob2 ++ ob ++ ob15) ob20))))) rfl (by kernel_rfl) rfl (by rw [ill_length]; omega) Tryd.isAgg34 Tryd.sizeOf34) ?_
          refine D_v (.slice (some ⟨g25, 0, none⟩) X.length cap5) ?_
          refine D_v (.int .i64 ((i : Nat) : Int)) ?_
          refine D_val (.pointer (some ⟨g25, 0 + i * 4, none⟩)) (by kernel_rfl) (ixS (k := .i64) g25 0 X.length cap5 4 i rfl (by kernel_rfl) (by kernel_rfl) Tryd.underlying25 Tryd.sizeOf34 (by omega)) ?_
          refine D_held (sc4 (X.getD i 0)) (by kernel_rfl) (ldW fs4_len 0 i g25 0 (0 + i * 4) (fun w hO => Rd.rdB (cap := cap5) (len := X.length) (Rw.rd' fs4_len rfl hr3 hO (((((List.sublist_append_right (([] : List B)) ob2).trans (List.sublist_append_left (([] : List B) ++ ob2) ob)).trans (List.sublist_append_left (([] : List B) ++ ob2 ++ ob) ob15)).trans (List.sublist_append_left (([] : List B) ++ ob2 ++ ob ++ ob15) ob20))))) rfl (by kernel_rfl) rfl (by omega) Tryd.isAgg34 Tryd.sizeOf34) ?_
          refine D_call (sc4 (X.getD i 0 ^ (ll - 2) % ll)) (by kernel_rfl) (fun _ _ => by kernel_rfl) (fun w hO => (c_sinvert w (hT.own hO) (X.getD i 0) (hXs _))) ?_
          have hC31 := fun (w : World) (hG : GV 0 tbS w) => c_ssame w hG ((sll X X.length).getD i 0) (X.getD i 0 ^ (ll - 2) % ll) (sll_lt _ _ _) (Nat.lt_trans (Nat.mod_lt _ (by decide)) (by decide))
          rw [sll_same X i (by omega)] at hC31
          refine D_call (.bool true) (by kernel_rfl) (fun _ _ => by kernel_rfl) (fun w hO => (hC31 w (hT.own hO))) ?_
          refine D_v (.bool false) ?_
          refine D_v (.bool false) ?_
          refine D_v (.slice (some ⟨g25, 0, none⟩) X.length cap5) ?_
          refine D_v (.int .i64 ((i : Nat) : Int)) ?_
          refine D_val (.pointer (some ⟨g25, 0 + i * 4, none⟩)) (by kernel_rfl) (ixS (k := .i64) g25 0 X.length cap5 4 i rfl (by kernel_rfl) (by kernel_rfl) Tryd.underlying25 Tryd.sizeOf34 (by omega)) ?_
          refine D_held (sc4 (X.getD i 0)) (by kernel_rfl) (ldW fs4_len 0 i g25 0 (0 + i * 4) (fun w hO => Rd.rdB (cap := cap5) (len := X.length) (Rw.rd' fs4_len rfl hr3 hO (((((List.sublist_append_right (([] : List B)) ob2).trans (List.sublist_append_left (([] : List B) ++ ob2) ob)).trans (List.sublist_append_left (([] : List B) ++ ob2 ++ ob) ob15)).trans (List.sublist_append_left (([] : List B) ++ ob2 ++ ob ++ ob15) ob20))))) rfl (by kernel_rfl) rfl (by omega) Tryd.isAgg34 Tryd.sizeOf34) ?_
          have hC32 := fun (w : World) (hG : GV 0 tbS w) => c_szero w hG (X.getD i 0) (hXs _)
          rw [show decide (X.getD i 0 % ll = 0) = true from hz] at hC32
          refine D_call (.bool true) (by kernel_rfl) (fun _ _ => by kernel_rfl) (fun w hO => (hC32 w (hT.own hO))) ?_
          refine D_v (.slice (some ⟨g28, 0, none⟩) X.length cap18) ?_
          refine D_v (.int .i64 ((i : Nat) : Int)) ?_
          refine D_val (.pointer (some ⟨g28, 0 + i * 4, none⟩)) (by kernel_rfl) (ixS (k := .i64) g28 0 X.length cap18 4 i rfl (by kernel_rfl) (by kernel_rfl) Tryd.underlying25 Tryd.sizeOf34 (by omega)) ?_
          refine D_held (sc4 ((sll X X.length).getD i 0)) (by kernel_rfl) (ldW fs4_len 0 i g28 0 (0 + i * 4) (fun w hO => Rd.rdB (cap := cap18) (len := X.length) (Rw.rd' fs4_len (ill_length _ _ _ _ _ _ _) hr16 hO (((List.sublist_append_right (([] : List B) ++ ob2 ++ ob) ob15).trans (List.sublist_append_left (([] : List B) ++ ob2 ++ ob ++ ob15) ob20))))) rfl (by kernel_rfl) rfl (by rw [ill_length]; omega) Tryd.isAgg34 Tryd.sizeOf34) ?_
          have hC33 := fun (w : World) (hG : GV 0 tbS w) => c_szero w hG ((sll X X.length).getD i 0) (sll_lt _ _ _)
          rw [show decide ((sll X X.length).getD i 0 % ll = 0) = true from (sll_zero X i (by omega)).trans hz] at hC33
          refine D_call (.bool true) (by kernel_rfl) (fun _ _ => by kernel_rfl) (fun w hO => (hC33 w (hT.own hO))) ?_
          refine D_v (.bool false) ?_
          refine D_v (.bool false) ?_
          refine D_v (.bool false) ?_
          refine D_v (.slice (some ⟨g25, 0, none⟩) X.length cap5) ?_
          refine D_v (.int .i64 ((i : Nat) : Int)) ?_
          refine D_val (.pointer (some ⟨g25, 0 + i * 4, none⟩)) (by kernel_rfl) (ixS (k := .i64) g25 0 X.length cap5 4 i rfl (by kernel_rfl) (by kernel_rfl) Tryd.underlying25 Tryd.sizeOf34 (by omega)) ?_
          refine D_held (sc4 (X.getD i 0)) (by kernel_rfl) (ldW fs4_len 0 i g25 0 (0 + i * 4) (fun w hO => Rd.rdB (cap := cap5) (len := X.length) (Rw.rd' fs4_len rfl hr3 hO (((((List.sublist_append_right (([] : List B)) ob2).trans (List.sublist_append_left (([] : List B) ++ ob2) ob)).trans (List.sublist_append_left (([] : List B) ++ ob2 ++ ob) ob15)).trans (List.sublist_append_left (([] : List B) ++ ob2 ++ ob ++ ob15) ob20))))) rfl (by kernel_rfl) rfl (by omega) Tryd.isAgg34 Tryd.sizeOf34) ?_
          have hC34 := fun (w : World) (hG : GV 0 tbS w) => c_szero w hG (X.getD i 0) (hXs _)
          rw [show decide (X.getD i 0 % ll = 0) = true from hz] at hC34
          refine D_call (.bool true) (by kernel_rfl) (fun _ _ => by kernel_rfl) (fun w hO => (hC34 w (hT.own hO))) ?_
          refine D_v (.bool false) ?_
          refine D_v (.bool false) ?_
          refine D_not (by kernel_rfl) ?_
          refine D_not (by kernel_rfl) ?_
          refine D_not (by kernel_rfl) ?_
          refine D_not (by kernel_rfl) ?_
          refine D_not (by kernel_rfl) ?_
          refine D_not (by kernel_rfl) ?_
          refine D_not (by kernel_rfl) ?_
          refine D_not (by kernel_rfl) ?_
          refine D_not (by kernel_rfl) ?_
          refine D_not (by kernel_rfl) ?_
          refine D_not (by kernel_rfl) ?_
          refine D_not (by kernel_rfl) ?_
          refine D_v (.bool false) ?_
          refine D_v (.bool false) ?_
          refine D_nil ?_
          refine E_then ?_
          refine C_false (by kernel_rfl) ?_
          refine C_skip ?_
          refine E_inblock ?_
          refine E_then ?_
          refine C_region ?_
          refine S_v (.int .i64 ((i : Nat) : Int)) ?_
          refine S_val (.int .i64 ((i + 1 : Nat) : Int)) (by kernel_rfl) (fun _ _ => fv (v := .int .i64 (IntKind.i64.wrap (((i : Nat) : Int) + 1))) (vint (w64 (by omega) (by omega) (by omega))) (by kernel_rfl)) ?_
          refine S_v (.int .i64 ((i + 1 : Nat) : Int)) ?_
          refine S_nil ?_
          exact E_norm (fun w hw => ⟨i + 1, by omega, (by kernel_rfl), (by (try dsimp only); omega), hw⟩)
        · refine C_drawn [.pure, .pure, .pure, .held, .pure, .pure, .pure, .held, .held, .held, .pure, .pure, .pure, .pure, .pure, .held, .held, .pure, .pure, .pure, .held, .held, .pure, .pure, .pure, .pure, .pure, .pure, .held, .held, .pure, .pure, .pure, .pure, .pure, .held, .pure, .pure, .pure, .held, .held, .held, .held, .pure, .pure, .pure] (by kernel_rfl) (by kernel_rfl) ?_
          refine D_v (.slice (some ⟨g28, 0, none⟩) X.length cap18) ?_
          refine D_v (.int .i64 ((i : Nat) : Int)) ?_
          refine D_val (.pointer (some ⟨g28, 0 + i * 4, none⟩)) (by kernel_rfl) (ixS (k := .i64) g28 0 X.length cap18 4 i rfl (by kernel_rfl) (by kernel_rfl) Tryd.underlying25 Tryd.sizeOf34 (by omega)) ?_
          refine D_held (sc4 ((sll X X.length).getD i 0)) (by kernel_rfl) (ldW fs4_len 0 i g28 0 (0 + i * 4) (fun w hO => Rd.rdB (cap := cap18) (len := X.length) (Rw.rd' fs4_len (ill_length _ _ _ _ _ _ _) hr16 hO (((List.sublist_append_right (([] : List B) ++ ob2 ++ ob) ob15).trans (List.sublist_append_left (([] : List B) ++ ob2 ++ ob ++ ob15) ob20))))) rfl (by kernel_rfl) rfl (by rw [ill_length]; omega) Tryd.isAgg34 Tryd.sizeOf34) ?_
          refine D_v (.slice (some ⟨g25, 0, none⟩) X.length cap5) ?_
          refine D_v (.int .i64 ((i : Nat) : Int)) ?_
          refine D_val (.pointer (some ⟨g25, 0 + i * 4, none⟩)) (by kernel_rfl) (ixS (k := .i64) g25 0 X.length cap5 4 i rfl (by kernel_rfl) (by kernel_rfl) Tryd.underlying25 Tryd.sizeOf34 (by omega)) ?_
          refine D_held (sc4 (X.getD i 0)) (by kernel_rfl) (ldW fs4_len 0 i g25 0 (0 + i * 4) (fun w hO => Rd.rdB (cap := cap5) (len := X.length) (Rw.rd' fs4_len rfl hr3 hO (((((List.sublist_append_right (([] : List B)) ob2).trans (List.sublist_append_left (([] : List B) ++ ob2) ob)).trans (List.sublist_append_left (([] : List B) ++ ob2 ++ ob) ob15)).trans (List.sublist_append_left (([] : List B) ++ ob2 ++ ob ++ ob15) ob20))))) rfl (by kernel_rfl) rfl (by omega) Tryd.isAgg34 Tryd.sizeOf34) ?_
          refine D_call (sc4 (X.getD i 0 ^ (ll - 2) % ll)) (by kernel_rfl) (fun _ _ => by kernel_rfl) (fun w hO => (c_sinvert w (hT.own hO) (X.getD i 0) (hXs _))) ?_
          have hC35 := fun (w : World) (hG : GV 0 tbS w) => c_ssame w hG ((sll X X.length).getD i 0) (X.getD i 0 ^ (ll - 2) % ll) (sll_lt _ _ _) (Nat.lt_trans (Nat.mod_lt _ (by decide)) (by decide))
          rw [sll_same X i (by omega)] at hC35
          refine D_call (.bool true) (by kernel_rfl) (fun _ _ => by kernel_rfl) (fun w hO => (hC35 w (hT.own hO))) ?_
          refine D_v (.bool false) ?_
          refine D_v (.bool false) ?_
          refine D_v (.slice (some ⟨g25, 0, none⟩) X.length cap5) ?_
          refine D_v (.int .i64 ((i : Nat) : Int)) ?_
          refine D_val (.pointer (some ⟨g25, 0 + i * 4, none⟩)) (by kernel_rfl) (ixS (k := .i64) g25 0 X.length cap5 4 i rfl (by kernel_rfl) (by kernel_rfl) Tryd.underlying25 Tryd.sizeOf34 (by omega)) ?_
          refine D_held (sc4 (X.getD i 0)) (by kernel_rfl) (ldW fs4_len 0 i g25 0 (0 + i * 4) (fun w hO => Rd.rdB (cap := cap5) (len := X.length) (Rw.rd' fs4_len rfl hr3 hO (((((List.sublist_append_right (([] : List B)) ob2).trans (List.sublist_append_left (([] : List B) ++ ob2) ob)).trans (List.sublist_append_left (([] : List B) ++ ob2 ++ ob) ob15)).trans (List.sublist_append_left (([] : List B) ++ ob2 ++ ob ++ ob15) ob20))))) rfl (by kernel_rfl) rfl (by omega) Tryd.isAgg34 Tryd.sizeOf34) ?_
          have hC36 := fun (w : World) (hG : GV 0 tbS w) => c_szero w hG (X.getD i 0) (hXs _)
          rw [show decide (X.getD i 0 % ll = 0) = false from eq_false_of_ne_true hz] at hC36
          refine D_call (.bool false) (by kernel_rfl) (fun _ _ => by kernel_rfl) (fun w hO => (hC36 w (hT.own hO))) ?_
          refine D_v (.slice (some ⟨g28, 0, none⟩) X.length cap18) ?_
          refine D_v (.int .i64 ((i : Nat) : Int)) ?_
          refine D_val (.pointer (some ⟨g28, 0 + i * 4, none⟩)) (by kernel_rfl) (ixS (k := .i64) g28 0 X.length cap18 4 i rfl (by kernel_rfl) (by kernel_rfl) Tryd.underlying25 Tryd.sizeOf34 (by omega)) ?_
          refine D_held (sc4 ((sll X X.length).getD i 0)) (by kernel_rfl) (ldW fs4_len 0 i g28 0 (0 + i * 4) (fun w hO => Rd.rdB (cap := cap18) (len := X.length) (Rw.rd' fs4_len (ill_length _ _ _ _ _ _ _) hr16 hO (((List.sublist_append_right (([] : List B) ++ ob2 ++ ob) ob15).trans (List.sublist_append_left (([] : List B) ++ ob2 ++ ob ++ ob15) ob20))))) rfl (by kernel_rfl) rfl (by rw [ill_length]; omega) Tryd.isAgg34 Tryd.sizeOf34) ?_
          have hC37 := fun (w : World) (hG : GV 0 tbS w) => c_szero w hG ((sll X X.length).getD i 0) (sll_lt _ _ _)
          rw [show decide ((sll X X.length).getD i 0 % ll = 0) = false from (sll_zero X i (by omega)).trans (eq_false_of_ne_true hz)] at hC37
          refine D_call (.bool false) (by kernel_rfl) (fun _ _ => by kernel_rfl) (fun w hO => (hC37 w (hT.own hO))) ?_
          refine D_v (.bool false) ?_
          refine D_v (.bool false) ?_
          refine D_v (.bool false) ?_
          refine D_v (.slice (some ⟨g25, 0, none⟩) X.length cap5) ?_
          refine D_v (.int .i64 ((i : Nat) : Int)) ?_
          refine D_val (.pointer (some ⟨g25, 0 + i * 4, none⟩)) (by kernel_rfl) (ixS (k := .i64) g25 0 X.length cap5 4 i rfl (by kernel_rfl) (by kernel_rfl) Tryd.underlying25 Tryd.sizeOf34 (by omega)) ?_
          refine D_held (sc4 (X.getD i 0)) (by kernel_rfl) (ldW fs4_len 0 i g25 0 (0 + i * 4) (fun w hO => Rd.rdB (cap := cap5) (len := X.length) (Rw.rd' fs4_len rfl hr3 hO (((((List.sublist_append_right (([] : List B)) ob2).trans (List.sublist_append_left (([] : List B) ++ ob2) ob)).trans (List.sublist_append_left (([] : List B) ++ ob2 ++ ob) ob15)).trans (List.sublist_append_left (([] : List B) ++ ob2 ++ ob ++ ob15) ob20))))) rfl (by kernel_rfl) rfl (by omega) Tryd.isAgg34 Tryd.sizeOf34) ?_
          have hC38 := fun (w : World) (hG : GV 0 tbS w) => c_szero w hG (X.getD i 0) (hXs _)
          rw [show decide (X.getD i 0 % ll = 0) = false from eq_false_of_ne_true hz] at hC38
          refine D_call (.bool false) (by kernel_rfl) (fun _ _ => by kernel_rfl) (fun w hO => (hC38 w (hT.own hO))) ?_
          refine D_v (.bool true) ?_
          refine D_v (.bool true) ?_
          refine D_v (.slice (some ⟨g28, 0, none⟩) X.length cap18) ?_
          refine D_v (.int .i64 ((i : Nat) : Int)) ?_
          refine D_val (.pointer (some ⟨g28, 0 + i * 4, none⟩)) (by kernel_rfl) (ixS (k := .i64) g28 0 X.length cap18 4 i rfl (by kernel_rfl) (by kernel_rfl) Tryd.underlying25 Tryd.sizeOf34 (by omega)) ?_
          refine D_held (sc4 ((sll X X.length).getD i 0)) (by kernel_rfl) (ldW fs4_len 0 i g28 0 (0 + i * 4) (fun w hO => Rd.rdB (cap := cap18) (len := X.length) (Rw.rd' fs4_len (ill_length _ _ _ _ _ _ _) hr16 hO (((List.sublist_append_right (([] : List B) ++ ob2 ++ ob) ob15).trans (List.sublist_append_left (([] : List B) ++ ob2 ++ ob ++ ob15) ob20))))) rfl (by kernel_rfl) rfl (by rw [ill_length]; omega) Tryd.isAgg34 Tryd.sizeOf34) ?_
          refine D_v (.slice (some ⟨g25, 0, none⟩) X.length cap5) ?_
          refine D_v (.int .i64 ((i : Nat) : Int)) ?_
          refine D_val (.pointer (some ⟨g25, 0 + i * 4, none⟩)) (by kernel_rfl) (ixS (k := .i64) g25 0 X.length cap5 4 i rfl (by kernel_rfl) (by kernel_rfl) Tryd.underlying25 Tryd.sizeOf34 (by omega)) ?_
          refine D_held (sc4 (X.getD i 0)) (by kernel_rfl) (ldW fs4_len 0 i g25 0 (0 + i * 4) (fun w hO => Rd.rdB (cap := cap5) (len := X.length) (Rw.rd' fs4_len rfl hr3 hO (((((List.sublist_append_right (([] : List B)) ob2).trans (List.sublist_append_left (([] : List B) ++ ob2) ob)).trans (List.sublist_append_left (([] : List B) ++ ob2 ++ ob) ob15)).trans (List.sublist_append_left (([] : List B) ++ ob2 ++ ob ++ ob15) ob20))))) rfl (by kernel_rfl) rfl (by omega) Tryd.isAgg34 Tryd.sizeOf34) ?_
          refine D_call (sc4 ((sll X X.length).getD i 0 * X.getD i 0 % ll)) (by kernel_rfl) (fun _ _ => by kernel_rfl) (fun w hO => (c_smul w (hT.own hO) ((sll X X.length).getD i 0) (X.getD i 0) (sll_lt _ _ _) (hXs _))) ?_
          refine D_pure (v := .agg #[.int .u64 1, .int .u64 0, .int .u64 0, .int .u64 0]) (by kernel_rfl) (c_sint 1) (fun _ => by kernel_rfl) ?_
          have hC39 := fun (w : World) (hG : GV 0 tbS w) => c_ssame w hG ((sll X X.length).getD i 0 * X.getD i 0 % ll) 1 (Nat.lt_trans (Nat.mod_lt _ (by decide)) (by decide)) (by decide)
          rw [sll_one X i (by omega) hz] at hC39
          refine D_call (.bool true) (by kernel_rfl) (fun _ _ => by kernel_rfl) (fun w hO => (hC39 w (hT.own hO))) ?_
          refine D_v (.bool false) ?_
          refine D_v (.bool false) ?_
          refine D_v (.bool false) ?_
          refine D_nil ?_
          refine E_then ?_
          refine C_false (by kernel_rfl) ?_
          refine C_skip ?_
          refine E_inblock ?_
          refine E_then ?_
          refine C_region ?_
          refine S_v (.int .i64 ((i : Nat) : Int)) ?_
          refine S_val (.int .i64 ((i + 1 : Nat) : Int)) (by kernel_rfl) (fun _ _ => fv (v := .int .i64 (IntKind.i64.wrap (((i : Nat) : Int) + 1))) (vint (w64 (by omega) (by omega) (by omega))) (by kernel_rfl)) ?_
          refine S_v (.int .i64 ((i + 1 : Nat) : Int)) ?_
          refine S_nil ?_
          exact E_norm (fun w hw => ⟨i + 1, by omega, (by kernel_rfl), (by (try dsimp only); omega), hw⟩)
      · replace hc := of_decide_eq_false hc
        obtain rfl : i = X.length := by omega
        refine C_exit ?_
        refine E_pass_exit ?_
        refine E_pass_exit ?_
        refine E_outblock ?_
        refine E_then ?_
        refine C_seq ?_
        refine C_seq ?_
        refine C_region ?_
        refine S_v (.int .i64 0) ?_
        refine S_nil ?_
        refine E_then ?_
        refine C_block ?_
        refine C_loop3 (fun (i : Nat) (v : Value) (oba : List B) => (i ≤ Y.length) ∧ (Rw 31 5 v (2 * i) ((bal Y i).flatMap ff5) oba)) (fun (i : Nat) (v : Value) (oba : List B) => fun g => ⟨#[g 0, g 1, g 2, g 3, g 4, g 5, .slice aoq Y.length capq, g 7, g 8, .slice ao22 Y.length cap23, v, g 11, .int .i64 ((i : Nat) : Int), g 13, g 14, g 15, g 16, g 17, g 18, g 19, g 20, g 21, g 22, g 23, g 24, g 25, g 26, g 27, g 28, g 29, g 30, g 31, g 32, g 33, g 34, g 35, g 36, g 37, g 38, g 39, g 40, g 41, g 42, g 43, g 44, g 45, g 46, g 47, g 48, g 49, g 50, g 51, g 52, g 53, g 54, g 55, g 56, g 57, g 58, g 59, g 60, g 61, g 62, g 63, g 64, g 65, g 66, g 67, g 68, g 69, g 70, g 71, g 72, g 73, g 74, g 75, g 76, g 77, g 78, g 79, g 80, g 81, g 82, g 83, g 84, g 85, g 86, g 87, g 88, g 89, g 90, g 91, g 92, g 93, g 94, g 95, g 96, g 97, g 98, g 99, g 100, g 101, g 102, g 103, g 104, g 105, g 106, g 107, g 108, g 109, g 110, g 111, g 112, g 113, g 114, g 115, g 116, g 117, g 118, g 119, g 120, g 121, g 122, g 123, g 124, g 125, g 126, g 127, g 128, g 129, g 130, g 131, g 132, g 133, g 134, g 135, g 136, g 137, g 138, g 139, g 140, g 141, g 142, g 143, g 144, g 145, g 146, g 147, g 148, g 149, g 150, g 151, g 152, g 153, g 154, g 155, g 156, g 157, g 158, g 159, g 160, g 161, g 162, g 163, g 164, g 165, g 166], []⟩) (fun (i : Nat) (v : Value) (oba : List B) => [] ++ ob2 ++ ob ++ ob15 ++ ob20 ++ oba) (fun (i : Nat) (v : Value) (oba : List B) => Y.length - i) 0 (.slice none 0 0) [] (by (try dsimp only); exact ⟨Nat.zero_le _, Rw.nil 31 5⟩) (by kernel_rfl) (by first | (dsimp only; done) | ((try dsimp only); simp)) ?_
        rintro i v oba g40 ⟨hi, hr2⟩
        refine C_seq ?_
        refine C_seq ?_
        refine C_region ?_
        refine S_v (.int .i64 ((i : Nat) : Int)) ?_
        refine S_v (.slice aoq Y.length capq) ?_
        refine S_v (.int .i64 ((Y.length : Nat) : Int)) ?_
        refine S_v (.bool (decide (((i : Nat) : Int) < ((Y.length : Nat) : Int)))) ?_
        refine S_nil ?_
        refine E_then ?_
        refine C_if (decide (((i : Nat) : Int) < ((Y.length : Nat) : Int))) (by kernel_rfl) (fun hc => ?_) (fun hc => ?_)
        · replace hc := of_decide_eq_true hc
          obtain ⟨g41, cap42, sp43, eg41, _⟩ := Rw.op' rfl hr (by omega)
          cases eg41
          obtain ⟨g44, cap45, sp46, eg44, _⟩ := Rw.op' (ill_length _ _ _ _ _ _ _) hr21 (by omega)
          cases eg44
          refine C_skip ?_
          refine E_then ?_
          refine C_seq ?_
          refine C_block ?_
          refine C_seq ?_
          refine C_seq ?_
          by_cases hz : fzr (Y.getD i F5.z) = true
          · refine C_drawn [.pure, .pure, .pure, .held, .pure, .pure, .pure, .held, .held, .held, .pure, .pure, .pure, .pure, .pure, .held, .held, .pure, .pure, .pure, .pure, .pure, .pure, .pure, .pure, .pure, .pure, .pure, .pure, .pure, .pure, .pure, .pure] (by kernel_rfl) (by kernel_rfl) ?_
            refine D_v (.slice (some ⟨g44, 0, none⟩) Y.length cap23) ?_
            refine D_v (.int .i64 ((i : Nat) : Int)) ?_
            refine D_val (.pointer (some ⟨g44, 0 + i * 5, none⟩)) (by kernel_rfl) (ixS (k := .i64) g44 0 Y.length cap23 5 i rfl (by kernel_rfl) (by kernel_rfl) Tryd.underlying28 Tryd.sizeOf31 (by omega)) ?_
            refine D_held (F5.v ((fll Y Y.length).getD i F5.z)) (by kernel_rfl) (ldW ff5_len F5.z i g44 0 (0 + i * 5) (fun w hO => Rd.rdB (cap := cap23) (len := Y.length) (Rw.rd' ff5_len (ill_length _ _ _ _ _ _ _) hr21 hO (((List.sublist_append_right (([] : List B) ++ ob2 ++ ob ++ ob15) ob20).trans (List.sublist_append_left (([] : List B) ++ ob2 ++ ob ++ ob15 ++ ob20) oba))))) rfl (by kernel_rfl) rfl (by rw [ill_length]; omega) Tryd.isAgg31 Tryd.sizeOf31) ?_
            refine D_v (.slice (some ⟨g41, 0, none⟩) Y.length capq) ?_
            refine D_v (.int .i64 ((i : Nat) : Int)) ?_
            refine D_val (.pointer (some ⟨g41, 0 + i * 5, none⟩)) (by kernel_rfl) (ixS (k := .i64) g41 0 Y.length capq 5 i rfl (by kernel_rfl) (by kernel_rfl) Tryd.underlying28 Tryd.sizeOf31 (by omega)) ?_
            refine D_held (F5.v (Y.getD i F5.z)) (by kernel_rfl) (ldW ff5_len F5.z i g41 0 (0 + i * 5) (fun w hO => Rd.rdB (cap := capq) (len := Y.length) (Rw.rd' ff5_len rfl hr hO (((((List.sublist_append_right (([] : List B) ++ ob2) ob).trans (List.sublist_append_left (([] : List B) ++ ob2 ++ ob) ob15)).trans (List.sublist_append_left (([] : List B) ++ ob2 ++ ob ++ ob15) ob20)).trans (List.sublist_append_left (([] : List B) ++ ob2 ++ ob ++ ob15 ++ ob20) oba))))) rfl (by kernel_rfl) rfl (by omega) Tryd.isAgg31 Tryd.sizeOf31) ?_
            refine D_pure (v := F5.v (F5.of ((Y.getD i F5.z).val ^ (pp - 2) % pp))) (by kernel_rfl) (c_finvert (Y.getD i F5.z) (hYs _)) (fun _ => by kernel_rfl) ?_
            have hC47 := c_fsame ((fll Y Y.length).getD i F5.z) (F5.of ((Y.getD i F5.z).val ^ (pp - 2) % pp)) (fll_ok _ _ _) (F5.of_ok _)
            rw [fll_same Y i (by omega)] at hC47
            refine D_pure (v := .bool true) (by kernel_rfl) hC47 (fun _ => by kernel_rfl) ?_
            refine D_v (.bool false) ?_
            refine D_v (.bool false) ?_
            refine D_v (.slice (some ⟨g41, 0, none⟩) Y.length capq) ?_
            refine D_v (.int .i64 ((i : Nat) : Int)) ?_
            refine D_val (.pointer (some ⟨g41, 0 + i * 5, none⟩)) (by kernel_rfl) (ixS (k := .i64) g41 0 Y.length capq 5 i rfl (by kernel_rfl) (by kernel_rfl) Tryd.underlying28 Tryd.sizeOf31 (by omega)) ?_
            refine D_held (F5.v (Y.getD i F5.z)) (by kernel_rfl) (ldW ff5_len F5.z i g41 0 (0 + i * 5) (fun w hO => Rd.rdB (cap := capq) (len := Y.length) (Rw.rd' ff5_len rfl hr hO (((((List.sublist_append_right (([] : List B) ++ ob2) ob).trans (List.sublist_append_left (([] : List B) ++ ob2 ++ ob) ob15)).trans (List.sublist_append_left (([] : List B) ++ ob2 ++ ob ++ ob15) ob20)).trans (List.sublist_append_left (([] : List B) ++ ob2 ++ ob ++ ob15 ++ ob20) oba))))) rfl (by kernel_rfl) rfl (by omega) Tryd.isAgg31 Tryd.sizeOf31) ?_
            have hC48 := c_fzero (Y.getD i F5.z) (hYs _)
            rw [show decide ((Y.getD i F5.z).val % pp = 0) = true from hz] at hC48
            refine D_pure (v := .bool true) (by kernel_rfl) hC48 (fun _ => by kernel_rfl) ?_
            refine D_v (.bool false) ?_
            refine D_v (.bool false) ?_
            refine D_not (by kernel_rfl) ?_
            refine D_not (by kernel_rfl) ?_
            refine D_not (by kernel_rfl) ?_
            refine D_not (by kernel_rfl) ?_
            refine D_not (by kernel_rfl) ?_
            refine D_not (by kernel_rfl) ?_
            refine D_not (by kernel_rfl) ?_
            refine D_not (by kernel_rfl) ?_
            refine D_not (by kernel_rfl) ?_
            refine D_not (by kernel_rfl) ?_
            refine D_not (by kernel_rfl) ?_
            refine D_not (by kernel_rfl) ?_
            refine D_v (.bool false) ?_
            refine D_v (.bool false) ?_
            refine D_nil ?_
            refine E_then ?_
            refine C_false (by kernel_rfl) ?_
            refine C_skip ?_
            refine E_then ?_
            refine C_drawn [.pure, .pure, .pure, .pure, .held, .pure, .pure, .pure, .held, .held, .new, .eff, .pure] (by kernel_rfl) (by kernel_rfl) ?_
            refine D_v (v) ?_
            refine D_v (.slice (some ⟨g41, 0, none⟩) Y.length capq) ?_
            refine D_v (.int .i64 ((i : Nat) : Int)) ?_
            refine D_val (.pointer (some ⟨g41, 0 + i * 5, none⟩)) (by kernel_rfl) (ixS (k := .i64) g41 0 Y.length capq 5 i rfl (by kernel_rfl) (by kernel_rfl) Tryd.underlying28 Tryd.sizeOf31 (by omega)) ?_
            refine D_held (F5.v (Y.getD i F5.z)) (by kernel_rfl) (ldW ff5_len F5.z i g41 0 (0 + i * 5) (fun w hO => Rd.rdB (cap := capq) (len := Y.length) (Rw.rd' ff5_len rfl hr hO (((((List.sublist_append_right (([] : List B) ++ ob2) ob).trans (List.sublist_append_left (([] : List B) ++ ob2 ++ ob) ob15)).trans (List.sublist_append_left (([] : List B) ++ ob2 ++ ob ++ ob15) ob20)).trans (List.sublist_append_left (([] : List B) ++ ob2 ++ ob ++ ob15 ++ ob20) oba))))) rfl (by kernel_rfl) rfl (by omega) Tryd.isAgg31 Tryd.sizeOf31) ?_
            refine D_v (.slice (some ⟨g41, 0, none⟩) Y.length capq) ?_
            refine D_v (.int .i64 ((i : Nat) : Int)) ?_
            refine D_val (.pointer (some ⟨g41, 0 + i * 5, none⟩)) (by kernel_rfl) (ixS (k := .i64) g41 0 Y.length capq 5 i rfl (by kernel_rfl) (by kernel_rfl) Tryd.underlying28 Tryd.sizeOf31 (by omega)) ?_
            refine D_held (F5.v (Y.getD i F5.z)) (by kernel_rfl) (ldW ff5_len F5.z i g41 0 (0 + i * 5) (fun w hO => Rd.rdB (cap := capq) (len := Y.length) (Rw.rd' ff5_len rfl hr hO (((((List.sublist_append_right (([] : List B) ++ ob2) ob).trans (List.sublist_append_left (([] : List B) ++ ob2 ++ ob) ob15)).trans (List.sublist_append_left (([] : List B) ++ ob2 ++ ob ++ ob15) ob20)).trans (List.sublist_append_left (([] : List B) ++ ob2 ++ ob ++ ob15 ++ ob20) oba))))) rfl (by kernel_rfl) rfl (by omega) Tryd.isAgg31 Tryd.sizeOf31) ?_
            refine D_pure (v := F5.v (fng (Y.getD i F5.z))) (by kernel_rfl) (c_fneg (Y.getD i F5.z) (hYs _)) (fun _ => by kernel_rfl) ?_
            refine D_fresh (fun nb0 => .slice (some ⟨nb0, 0, none⟩) 2 2) [wd ((Y.getD i F5.z).l0), wd ((Y.getD i F5.z).l1), wd ((Y.getD i F5.z).l2), wd ((Y.getD i F5.z).l3), wd ((Y.getD i F5.z).l4), wd ((fng (Y.getD i F5.z)).l0), wd ((fng (Y.getD i F5.z)).l1), wd ((fng (Y.getD i F5.z)).l2), wd ((fng (Y.getD i F5.z)).l3), wd ((fng (Y.getD i F5.z)).l4)] 31 (by kernel_rfl) (fun w _ => by kernel_rfl) ?_
            intro b49 hb49 Hb49
            refine D_app (sz := 5) (n := (2 * i) + 2) (xs := ((bal Y i).flatMap ff5) ++ [wd ((Y.getD i F5.z).l0), wd ((Y.getD i F5.z).l1), wd ((Y.getD i F5.z).l2), wd ((Y.getD i F5.z).l3), wd ((Y.getD i F5.z).l4), wd ((fng (Y.getD i F5.z)).l0), wd ((fng (Y.getD i F5.z)).l1), wd ((fng (Y.getD i F5.z)).l2), wd ((fng (Y.getD i F5.z)).l3), wd ((fng (Y.getD i F5.z)).l4)]) (fun ob' => [⟨b49, [wd ((Y.getD i F5.z).l0), wd ((Y.getD i F5.z).l1), wd ((Y.getD i F5.z).l2), wd ((Y.getD i F5.z).l3), wd ((Y.getD i F5.z).l4), wd ((fng (Y.getD i F5.z)).l0), wd ((fng (Y.getD i F5.z)).l1), wd ((fng (Y.getD i F5.z)).l2), wd ((fng (Y.getD i F5.z)).l3), wd ((fng (Y.getD i F5.z)).l4)], 31⟩] ++ ob2 ++ ob ++ ob15 ++ ob20 ++ ob') (Rw.inh (m := 2) hr2.1 (by kernel_rfl) (le_maxLen (by omega))) (by intro ob'; simp) (by kernel_rfl) (up_app (L1 := [⟨b49, [wd ((Y.getD i F5.z).l0), wd ((Y.getD i F5.z).l1), wd ((Y.getD i F5.z).l2), wd ((Y.getD i F5.z).l3), wd ((Y.getD i F5.z).l4), wd ((fng (Y.getD i F5.z)).l0), wd ((fng (Y.getD i F5.z)).l1), wd ((fng (Y.getD i F5.z)).l2), wd ((fng (Y.getD i F5.z)).l3), wd ((fng (Y.getD i F5.z)).l4)], 31⟩] ++ ob2 ++ ob ++ ob15 ++ ob20) (ob := oba) (L2 := []) (n := 2 * i) (xs := ((bal Y i).flatMap ff5)) 28 31 Tryd.t31 (.agg #[.int .u64 0, .int .u64 0, .int .u64 0, .int .u64 0, .int .u64 0]) Tryd.underlying28 (by kernel_rfl) (by kernel_rfl) (by kernel_rfl) rfl hr2 (by simp) ⟨b49, 0, none⟩ 2 2 [wd ((Y.getD i F5.z).l0), wd ((Y.getD i F5.z).l1), wd ((Y.getD i F5.z).l2), wd ((Y.getD i F5.z).l3), wd ((Y.getD i F5.z).l4), wd ((fng (Y.getD i F5.z)).l0), wd ((fng (Y.getD i F5.z)).l1), wd ((fng (Y.getD i F5.z)).l2), wd ((fng (Y.getD i F5.z)).l3), wd ((fng (Y.getD i F5.z)).l4)] (by kernel_rfl) (by kernel_rfl) (by kernel_rfl) (fun w hO j9 u9 hu => by rw [add_none, Nat.zero_add, hO.cellAt 0 (b := b49) (cs := [wd ((Y.getD i F5.z).l0), wd ((Y.getD i F5.z).l1), wd ((Y.getD i F5.z).l2), wd ((Y.getD i F5.z).l3), wd ((Y.getD i F5.z).l4), wd ((fng (Y.getD i F5.z)).l0), wd ((fng (Y.getD i F5.z)).l1), wd ((fng (Y.getD i F5.z)).l2), wd ((fng (Y.getD i F5.z)).l3), wd ((fng (Y.getD i F5.z)).l4)]) (ty := 31) (by kernel_rfl)]; exact hu) (by simp [Value.oneCell']) (by decide) (by simp only [Tryd.t31]; omega) (le_maxLen (by omega))) ?_
            intro v50 ob51 hr52
            replace hr52 : Rw 31 5 v50 ((2 * i) + 2) (((bal Y i) ++ [(Y.getD i F5.z), (fng (Y.getD i F5.z))]).flatMap ff5) ob51 := by first | exact hr52 | (rw [List.flatMap_append]; exact hr52)
            refine D_v (v50) ?_
            refine D_nil ?_
            refine E_inblock ?_
            refine E_then ?_
            refine C_region ?_
            refine S_v (.int .i64 ((i : Nat) : Int)) ?_
            refine S_val (.int .i64 ((i + 1 : Nat) : Int)) (by kernel_rfl) (fun _ _ => fv (v := .int .i64 (IntKind.i64.wrap (((i : Nat) : Int) + 1))) (vint (w64 (by omega) (by omega) (by omega))) (by kernel_rfl)) ?_
            refine S_v (.int .i64 ((i + 1 : Nat) : Int)) ?_
            refine S_nil ?_
            exact E_norm (fun w hw => ⟨i + 1, v50, ob51, ⟨by omega, by rw [bal_succ Y (by omega), show 2 * (i + 1) = 2 * i + 2 by omega]; exact hr52⟩, (by kernel_rfl), (by (try dsimp only); omega), hw.tail⟩)
          · refine C_drawn [.pure, .pure, .pure, .held, .pure, .pure, .pure, .held, .held, .held, .pure, .pure, .pure, .pure, .pure, .held, .held, .pure, .pure, .pure, .pure, .pure, .held, .pure, .pure, .pure, .held, .held, .held, .held, .pure, .pure, .pure] (by kernel_rfl) (by kernel_rfl) ?_
            refine D_v (.slice (some ⟨g44, 0, none⟩) Y.length cap23) ?_
            refine D_v (.int .i64 ((i : Nat) : Int)) ?_
            refine D_val (.pointer (some ⟨g44, 0 + i * 5, none⟩)) (by kernel_rfl) (ixS (k := .i64) g44 0 Y.length cap23 5 i rfl (by kernel_rfl) (by kernel_rfl) Tryd.underlying28 Tryd.sizeOf31 (by omega)) ?_
            refine D_held (F5.v ((fll Y Y.length).getD i F5.z)) (by kernel_rfl) (ldW ff5_len F5.z i g44 0 (0 + i * 5) (fun w hO => Rd.rdB (cap := cap23) (len := Y.length) (Rw.rd' ff5_len (ill_length _ _ _ _ _ _ _) hr21 hO (((List.sublist_append_right (([] : List B) ++ ob2 ++ ob ++ ob15) ob20).trans (List.sublist_append_left (([] : List B) ++ ob2 ++ ob ++ ob15 ++ ob20) oba))))) rfl (by kernel_rfl) rfl (by rw [ill_length]; omega) Tryd.isAgg31 Tryd.sizeOf31) ?_
            refine D_v (.slice (some ⟨g41, 0, none⟩) Y.length capq) ?_
            refine D_v (.int .i64 ((i : Nat) : Int)) ?_
            refine D_val (.pointer (some ⟨g41, 0 + i * 5, none⟩)) (by kernel_rfl) (ixS (k := .i64) g41 0 Y.length capq 5 i rfl (by kernel_rfl) (by kernel_rfl) Tryd.underlying28 Tryd.sizeOf31 (by omega)) ?_
            refine D_held (F5.v (Y.getD i F5.z)) (by kernel_rfl) (ldW ff5_len F5.z i g41 0 (0 + i * 5) (fun w hO => Rd.rdB (cap := capq) (len := Y.length) (Rw.rd' ff5_len rfl hr hO (((((List.sublist_append_right (([] : List B) ++ ob2) ob).trans (List.sublist_append_left (([] : List B) ++ ob2 ++ ob) ob15)).trans (List.sublist_append_left (([] : List B) ++ ob2 ++ ob ++ ob15) ob20)).trans (List.sublist_append_left (([] : List B) ++ ob2 ++ ob ++ ob15 ++ ob20) oba))))) rfl (by kernel_rfl) rfl (by omega) Tryd.isAgg31 Tryd.sizeOf31) ?_
            refine D_pure (v := F5.v (F5.of ((Y.getD i F5.z).val ^ (pp - 2) % pp))) (by kernel_rfl) (c_finvert (Y.getD i F5.z) (hYs _)) (fun _ => by kernel_rfl) ?_
            have hC53 := c_fsame ((fll Y Y.length).getD i F5.z) (F5.of ((Y.getD i F5.z).val ^ (pp - 2) % pp)) (fll_ok _ _ _) (F5.of_ok _)
            rw [fll_same Y i (by omega)] at hC53
            refine D_pure (v := .bool true) (by kernel_rfl) hC53 (fun _ => by kernel_rfl) ?_
            refine D_v (.bool false) ?_
            refine D_v (.bool false) ?_
            refine D_v (.slice (some ⟨g41, 0, none⟩) Y.length capq) ?_
            refine D_v (.int .i64 ((i : Nat) : Int)) ?_
            refine D_val (.pointer (some ⟨g41, 0 + i * 5, none⟩)) (by kernel_rfl) (ixS (k := .i64) g41 0 Y.length capq 5 i rfl (by kernel_rfl) (by kernel_rfl) Tryd.underlying28 Tryd.sizeOf31 (by omega)) ?_
            refine D_held (F5.v (Y.getD i F5.z)) (by kernel_rfl) (ldW ff5_len F5.z i g41 0 (0 + i * 5) (fun w hO => Rd.rdB (cap := capq) (len := Y.length) (Rw.rd' ff5_len rfl hr hO (((((List.sublist_append_right (([] : List B) ++ ob2) ob).trans (List.sublist_append_left (([] : List B) ++ ob2 ++ ob) ob15)).trans (List.sublist_append_left (([] : List B) ++ ob2 ++ ob ++ ob15) ob20)).trans (List.sublist_append_left (([] : List B) ++ ob2 ++ ob ++ ob15 ++ ob20) oba))))) rfl (by kernel_rfl) rfl (by omega) Tryd.isAgg31 Tryd.sizeOf31) ?_
            have hC54 := c_fzero (Y.getD i F5.z) (hYs _)
            rw [show decide ((Y.getD i F5.z).val % pp = 0) = false from eq_false_of_ne_true hz] at hC54
            refine D_pure (v := .bool false) (by kernel_rfl) hC54 (fun _ => by kernel_rfl) ?_
            refine D_v (.bool true) ?_
            refine D_v (.bool true) ?_
            refine D_v (.slice (some ⟨g44, 0, none⟩) Y.length cap23) ?_
            refine D_v (.int .i64 ((i : Nat) : Int)) ?_
            refine D_val (.pointer (some ⟨g44, 0 + i * 5, none⟩)) (by kernel_rfl) (ixS (k := .i64) g44 0 Y.length cap23 5 i rfl (by kernel_rfl) (by kernel_rfl) Tryd.underlying28 Tryd.sizeOf31 (by omega)) ?_
            refine D_held (F5.v ((fll Y Y.length).getD i F5.z)) (by kernel_rfl) (ldW ff5_len F5.z i g44 0 (0 + i * 5) (fun w hO => Rd.rdB (cap := cap23) (len := Y.length) (Rw.rd' ff5_len (ill_length _ _ _ _ _ _ _) hr21 hO (((List.sublist_append_right (([] : List B) ++ ob2 ++ ob ++ ob15) ob20).trans (List.sublist_append_left (([] : List B) ++ ob2 ++ ob ++ ob15 ++ ob20) oba))))) rfl (by kernel_rfl) rfl (by rw [ill_length]; omega) Tryd.isAgg31 Tryd.sizeOf31) ?_
            refine D_v (.slice (some ⟨g41, 0, none⟩) Y.length capq) ?_
            refine D_v (.int .i64 ((i : Nat) : Int)) ?_
            refine D_val (.pointer (some ⟨g41, 0 + i * 5, none⟩)) (by kernel_rfl) (ixS (k := .i64) g41 0 Y.length capq 5 i rfl (by kernel_rfl) (by kernel_rfl) Tryd.underlying28 Tryd.sizeOf31 (by omega)) ?_
            refine D_held (F5.v (Y.getD i F5.z)) (by kernel_rfl) (ldW ff5_len F5.z i g41 0 (0 + i * 5) (fun w hO => Rd.rdB (cap := capq) (len := Y.length) (Rw.rd' ff5_len rfl hr hO (((((List.sublist_append_right (([] : List B) ++ ob2) ob).trans (List.sublist_append_left (([] : List B) ++ ob2 ++ ob) ob15)).trans (List.sublist_append_left (([] : List B) ++ ob2 ++ ob ++ ob15) ob20)).trans (List.sublist_append_left (([] : List B) ++ ob2 ++ ob ++ ob15 ++ ob20) oba))))) rfl (by kernel_rfl) rfl (by omega) Tryd.isAgg31 Tryd.sizeOf31) ?_
            refine D_pure (v := F5.v (F5.of (((fll Y Y.length).getD i F5.z).val * (Y.getD i F5.z).val % pp))) (by kernel_rfl) (c_fmul ((fll Y Y.length).getD i F5.z) (Y.getD i F5.z) (fll_ok _ _ _) (hYs _)) (fun _ => by kernel_rfl) ?_
            refine D_pure (v := F5.v (F5.of (1 % pp))) (by kernel_rfl) (c_fint 1 (by decide)) (fun _ => by kernel_rfl) ?_
            have hC55 := c_fsame (F5.of (((fll Y Y.length).getD i F5.z).val * (Y.getD i F5.z).val % pp)) (F5.of (1 % pp)) (F5.of_ok _) (F5.of_ok _)
            rw [fll_one Y i (by omega) hz] at hC55
            refine D_pure (v := .bool true) (by kernel_rfl) hC55 (fun _ => by kernel_rfl) ?_
            refine D_v (.bool false) ?_
            refine D_v (.bool false) ?_
            refine D_v (.bool false) ?_
            refine D_nil ?_
            refine E_then ?_
            refine C_false (by kernel_rfl) ?_
            refine C_skip ?_
            refine E_then ?_
            refine C_drawn [.pure, .pure, .pure, .pure, .held, .pure, .pure, .pure, .held, .held, .new, .eff, .pure] (by kernel_rfl) (by kernel_rfl) ?_
            refine D_v (v) ?_
            refine D_v (.slice (some ⟨g41, 0, none⟩) Y.length capq) ?_
            refine D_v (.int .i64 ((i : Nat) : Int)) ?_
            refine D_val (.pointer (some ⟨g41, 0 + i * 5, none⟩)) (by kernel_rfl) (ixS (k := .i64) g41 0 Y.length capq 5 i rfl (by kernel_rfl) (by kernel_rfl) Tryd.underlying28 Tryd.sizeOf31 (by omega)) ?_
            refine D_held (F5.v (Y.getD i F5.z)) (by kernel_rfl) (ldW ff5_len F5.z i g41 0 (0 + i * 5) (fun w hO => Rd.rdB (cap := capq) (len := Y.length) (Rw.rd' ff5_len rfl hr hO (((((List.sublist_append_right (([] : List B) ++ ob2) ob).trans (List.sublist_append_left (([] : List B) ++ ob2 ++ ob) ob15)).trans (List.sublist_append_left (([] : List B) ++ ob2 ++ ob ++ ob15) ob20)).trans (List.sublist_append_left (([] : List B) ++ ob2 ++ ob ++ ob15 ++ ob20) oba))))) rfl (by kernel_rfl) rfl (by omega) Tryd.isAgg31 Tryd.sizeOf31) ?_
            refine D_v (.slice (some ⟨g41, 0, none⟩) Y.length capq) ?_
            refine D_v (.int .i64 ((i : Nat) : Int)) ?_
            refine D_val (.pointer (some ⟨g41, 0 + i * 5, none⟩)) (by kernel_rfl) (ixS (k := .i64) g41 0 Y.length capq 5 i rfl (by kernel_rfl) (by kernel_rfl) Tryd.underlying28 Tryd.sizeOf31 (by omega)) ?_
            refine D_held (F5.v (Y.getD i F5.z)) (by kernel_rfl) (ldW ff5_len F5.z i g41 0 (0 + i * 5) (fun w hO => Rd.rdB (cap := capq) (len := Y.length) (Rw.rd' ff5_len rfl hr hO (((((List.sublist_append_right (([] : List B) ++ ob2) ob).trans (List.sublist_append_left (([] : List B) ++ ob2 ++ ob) ob15)).trans (List.sublist_append_left (([] : List B) ++ ob2 ++ ob ++ ob15) ob20)).trans (List.sublist_append_left (([] : List B) ++ ob2 ++ ob ++ ob15 ++ ob20) oba))))) rfl (by kernel_rfl) rfl (by omega) Tryd.isAgg31 Tryd.sizeOf31) ?_
            refine D_pure (v := F5.v (fng (Y.getD i F5.z))) (by kernel_rfl) (c_fneg (Y.getD i F5.z) (hYs _)) (fun _ => by kernel_rfl) ?_
            refine D_fresh (fun nb0 => .slice (some ⟨nb0, 0, none⟩) 2 2) [wd ((Y.getD i F5.z).l0), wd ((Y.getD i F5.z).l1), wd ((Y.getD i F5.z).l2), wd ((Y.getD i F5.z).l3), wd ((Y.getD i F5.z).l4), wd ((fng (Y.getD i F5.z)).l0), wd ((fng (Y.getD i F5.z)).l1), wd ((fng (Y.getD i F5.z)).l2), wd ((fng (Y.getD i F5.z)).l3), wd ((fng (Y.getD i F5.z)).l4)] 31 (by kernel_rfl) (fun w _ => by kernel_rfl) ?_
            intro b56 hb56 Hb56
            refine D_app (sz := 5) (n := (2 * i) + 2) (xs := ((bal Y i).flatMap ff5) ++ [wd ((Y.getD i F5.z).l0), wd ((Y.getD i F5.z).l1), wd ((Y.getD i F5.z).l2), wd ((Y.getD i F5.z).l3), wd ((Y.getD i F5.z).l4), wd ((fng (Y.getD i F5.z)).l0), wd ((fng (Y.getD i F5.z)).l1), wd ((fng (Y.getD i F5.z)).l2), wd ((fng (Y.getD i F5.z)).l3), wd ((fng (Y.getD i F5.z)).l4)]) (fun ob' => [⟨b56, [wd ((Y.getD i F5.z).l0), wd ((Y.getD i F5.z).l1), wd ((Y.getD i F5.z).l2), wd ((Y.getD i F5.z).l3), wd ((Y.getD i F5.z).l4), wd ((fng (Y.getD i F5.z)).l0), wd ((fng (Y.getD i F5.z)).l1), wd ((fng (Y.getD i F5.z)).l2), wd ((fng (Y.getD i F5.z)).l3), wd ((fng (Y.getD i F5.z)).l4)], 31⟩] ++ ob2 ++ ob ++ ob15 ++ ob20 ++ ob') (Rw.inh (m := 2) hr2.1 (by kernel_rfl) (le_maxLen (by omega))) (by intro ob'; simp) (by kernel_rfl) (up_app (L1 := [⟨b56, [wd ((Y.getD i F5.z).l0), wd ((Y.getD i F5.z).l1), wd ((Y.getD i F5.z).l2), wd ((Y.getD i F5.z).l3), wd ((Y.getD i F5.z).l4), wd ((fng (Y.getD i F5.z)).l0), wd ((fng (Y.getD i F5.z)).l1), wd ((fng (Y.getD i F5.z)).l2), wd ((fng (Y.getD i F5.z)).l3), wd ((fng (Y.getD i F5.z)).l4)], 31⟩] ++ ob2 ++ ob ++ ob15 ++ ob20) (ob := oba) (L2 := []) (n := 2 * i) (xs := ((bal Y i).flatMap ff5)) 28 31 Tryd.t31 (.agg #[.int .u64 0, .int .u64 0, .int .u64 0, .int .u64 0, .int .u64 0]) Tryd.underlying28 (by kernel_rfl) (by kernel_rfl) (by kernel_rfl) rfl hr2 (by simp) ⟨b56, 0, none⟩ 2 2 [wd ((Y.getD i F5.z).l0), wd ((Y.getD i F5.z).l1), wd ((Y.getD i F5.z).l2), wd ((Y.getD i F5.z).l3), wd ((Y.getD i F5.z).l4), wd ((fng (Y.getD i F5.z)).l0), wd ((fng (Y.getD i F5.z)).l1), wd ((fng (Y.getD i F5.z)).l2), wd ((fng (Y.getD i F5.z)).l3), wd ((fng (Y.getD i F5.z)).l4)] (by kernel_rfl) (by kernel_rfl) (by kernel_rfl) (fun w hO j9 u9 hu => by rw [add_none, Nat.zero_add, hO.cellAt 0 (b := b56) (cs := [wd ((Y.getD i F5.z).l0), wd ((Y.getD i F5.z).l1), wd ((Y.getD i F5.z).l2), wd ((Y.getD i F5.z).l3), wd ((Y.getD i F5.z).l4), wd ((fng (Y.getD i F5.z)).l0), wd ((fng (Y.getD i F5.z)).l1), wd ((fng (Y.getD i F5.z)).l2), wd ((fng (Y.getD i F5.z)).l3), wd ((fng (Y.getD i F5.z)).l4)]) (ty := 31) (by kernel_rfl)]; exact hu) (by simp [Value.oneCell']) (by decide) (by simp only [Tryd.t31]; omega) (le_maxLen (by omega))) ?_
            intro v57 ob58 hr59
            replace hr59 : Rw 31 5 v57 ((2 * i) + 2) (((bal Y i) ++ [(Y.getD i F5.z), (fng (Y.getD i F5.z))]).flatMap ff5) ob58 := by first | exact hr59 | (rw [List.flatMap_append]; exact hr59)
            refine D_v (v57) ?_
            refine D_nil ?_
            refine E_inblock ?_
            refine E_then ?_
            refine C_region ?_
            refine S_v (.int .i64 ((i : Nat) : Int)) ?_
            refine S_val (.int .i64 ((i + 1 : Nat) : Int)) (by kernel_rfl) (fun _ _ => fv (v := .int .i64 (IntKind.i64.wrap (((i : Nat) : Int) + 1))) (vint (w64 (by omega) (by omega) (by omega))) (by kernel_rfl)) ?_
            refine S_v (.int .i64 ((i + 1 : Nat) : Int)) ?_
            refine S_nil ?_
            exact E_norm (fun w hw => ⟨i + 1, v57, ob58, ⟨by omega, by rw [bal_succ Y (by omega), show 2 * (i + 1) = 2 * i + 2 by omega]; exact hr59⟩, (by kernel_rfl), (by (try dsimp only); omega), hw.tail⟩)
        · replace hc := of_decide_eq_false hc
          obtain rfl : i = Y.length := by omega
          obtain ⟨aoa, capa, rfl⟩ := hr2.len
          refine C_exit ?_
          refine E_pass_exit ?_
          refine E_pass_exit ?_
          refine E_outblock ?_
          refine E_then ?_
          refine C_seq ?_
          refine C_region ?_
          refine S_v (.slice aoa (2 * Y.length) capa) ?_
          refine S_call (by kernel_rfl) (fun _ _ => by kernel_rfl) (fun w hO => ((c_fsum w (.slice aoa (2 * Y.length) capa) (bal Y Y.length) (bal_ok hYs _ (Nat.le_refl _)) (Rw.rd' ff5_len (bal_length Y (Nat.le_refl _)) hr2 hO ((List.sublist_append_right (([] : List B) ++ ob2 ++ ob ++ ob15 ++ ob20) oba))) (by rw [bal_length Y (Nat.le_refl _)]; omega))).mono fun _ _ ⟨he, hb⟩ => ⟨F5.v (fsm (bal Y Y.length) (bal Y Y.length).length), _, he, hO.call hb, ?_⟩)
          have hC60 := c_fzero (fsm (bal Y Y.length) (bal Y Y.length).length) (fsm_ok _ _)
          rw [bal_zero Y] at hC60
          refine S_pure (v := .bool true) (by kernel_rfl) hC60 (fun _ => by kernel_rfl) ?_
          refine S_v (.bool true) ?_
          refine S_pure (v := .agg #[.int .u64 1, .int .u64 0, .int .u64 0, .int .u64 0]) (by kernel_rfl) (c_sint 1) (fun _ => by kernel_rfl) ?_
          refine S_pure (v := .agg #[.int .u64 1, .int .u64 0, .int .u64 0, .int .u64 0]) (by kernel_rfl) (c_sint 1) (fun _ => by kernel_rfl) ?_
          have hC61 := fun (w : World) (hG : GV 0 tbS w) => c_ssame w hG 1 1 (by decide) (by decide)
          rw [show decide (1 % ll = 1 % ll) = true from rfl] at hC61
          refine S_call (by kernel_rfl) (fun _ _ => by kernel_rfl) (fun w hO => ((hC61 w (hT.own hO))).mono fun _ _ ⟨he, hb⟩ => ⟨.bool true, _, he, hO.call hb, ?_⟩)
          refine S_v (.bool true) ?_
          refine S_v (.bool true) ?_
          refine S_pure (v := .agg #[.int .u64 1, .int .u64 0, .int .u64 0, .int .u64 0]) (by kernel_rfl) (c_sint 1) (fun _ => by kernel_rfl) ?_
          have hC62 := fun (w : World) (hG : GV 0 tbS w) => c_szero w hG 1 (by decide)
          rw [show decide (1 % ll = 0) = false from rfl] at hC62
          refine S_call (by kernel_rfl) (fun _ _ => by kernel_rfl) (fun w hO => ((hC62 w (hT.own hO))).mono fun _ _ ⟨he, hb⟩ => ⟨.bool false, _, he, hO.call hb, ?_⟩)
          refine S_v (.bool true) ?_
          refine S_v (.bool true) ?_
          refine S_v (.bool true) ?_
          refine S_nil ?_
          refine E_then ?_
          refine C_ret ?_
          exact pure_ret rfl (res1 Tryd.results3 (by kernel_rfl))
  · refine C_region ?_
    refine S_v (.int .i64 ((i : Nat) : Int)) ?_
    refine S_v (.slice ao2 ys.length cap2) ?_
    refine S_v (.int .i64 ((ys.length : Nat) : Int)) ?_
    refine S_val (.bool false) (by kernel_rfl) (fun _ _ => fv (v := .bool (decide (((i : Nat) : Int) < ((ys.length : Nat) : Int)))) (vbool (decide_eq_false (by omega))) (by kernel_rfl)) ?_
    refine S_v (.bool false) ?_
    refine S_not (by kernel_rfl) ?_
    refine S_not (by kernel_rfl) ?_
    refine S_v (.bool false) ?_
    refine S_nil ?_
    refine E_then ?_
    have e : ys.take i = ys.take 40 := take_eq (by omega)
    obtain ⟨Y, hY⟩ : ∃ Y, Y = ys.take 40 := ⟨_, rfl⟩
    have hYl : i = Y.length := by rw [hY, List.length_take]; omega
    rw [e, ← hY] at hr
    clear e
    subst hYl
    have hY40 : Y.length ≤ 40 := hi40
    have hYs : ∀ j, (Y.getD j F5.z).ok := by rw [hY]; exact getD_take F5.z_ok hys 40
    clear hY hi hi40
    obtain ⟨aoq, capq, rfl⟩ := hr.len
    refine C_false (by kernel_rfl) ?_
    refine C_exit ?_
    refine E_pass_exit ?_
    refine E_pass_exit ?_
    refine E_outblock ?_
    refine E_then ?_
    refine C_seq ?_
    refine C_region ?_
    refine S_v (.slice ao4 X.length cap5) ?_
    refine S_gives (mk := fun v0 => v0) (by kernel_rfl) (fun _ _ => by kernel_rfl) (fun w hO => (c_sinvall' w (hT.own hO) (.slice ao4 X.length cap5) X X.length rfl hXs (Rw.rd' fs4_len rfl hr3 hO (((List.sublist_append_right (([] : List B)) ob2).trans (List.sublist_append_left (([] : List B) ++ ob2) ob)))) (by omega))) ?_
    intro v63 ob64 hr65
    obtain ⟨ao66, cap67, rfl⟩ := hr65.len
    refine S_v (.slice ao66 X.length cap67) ?_
    refine S_nil ?_
    refine E_then ?_
    refine C_seq ?_
    refine C_region ?_
    refine S_v (.slice aoq Y.length capq) ?_
    refine S_gives (mk := fun v0 => v0) (by kernel_rfl) (fun _ _ => by kernel_rfl) (fun w hO => (c_finvall' w (.slice aoq Y.length capq) Y Y.length rfl hYs (Rw.rd' ff5_len rfl hr hO (((List.sublist_append_right (([] : List B) ++ ob2) ob).trans (List.sublist_append_left (([] : List B) ++ ob2 ++ ob) ob64)))) (by omega))) ?_
    intro v68 ob69 hr70
    obtain ⟨ao71, cap72, rfl⟩ := hr70.len
    refine S_v (.slice ao71 Y.length cap72) ?_
    refine S_nil ?_
    refine E_then ?_
    refine C_seq ?_
    refine C_seq ?_
    refine C_region ?_
    refine S_v (.slice ao66 X.length cap67) ?_
    refine S_v (.int .i64 ((X.length : Nat) : Int)) ?_
    refine S_v (.slice ao4 X.length cap5) ?_
    refine S_v (.int .i64 ((X.length : Nat) : Int)) ?_
    refine S_val (.bool false) (by kernel_rfl) (fun _ _ => fv (v := .bool (((X.length : Nat) : Int) != ((X.length : Nat) : Int))) (vbool (bne_eq_false_iff_eq.2 (by omega))) (by kernel_rfl)) ?_
    refine S_v (.bool false) ?_
    refine S_v (.slice ao71 Y.length cap72) ?_
    refine S_v (.int .i64 ((Y.length : Nat) : Int)) ?_
    refine S_v (.slice aoq Y.length capq) ?_
    refine S_v (.int .i64 ((Y.length : Nat) : Int)) ?_
    refine S_val (.bool false) (by kernel_rfl) (fun _ _ => fv (v := .bool (((Y.length : Nat) : Int) != ((Y.length : Nat) : Int))) (vbool (bne_eq_false_iff_eq.2 (by omega))) (by kernel_rfl)) ?_
    refine S_v (.bool false) ?_
    refine S_nil ?_
    refine E_then ?_
    refine C_false (by kernel_rfl) ?_
    refine C_skip ?_
    refine E_then ?_
    refine C_seq ?_
    refine C_region ?_
    refine S_v (.slice none 0 0) ?_
    refine S_nil ?_
    refine E_then ?_
    refine C_seq ?_
    refine C_seq ?_
    refine C_region ?_
    refine S_v (.int .i64 0) ?_
    refine S_nil ?_
    refine E_then ?_
    refine C_block ?_
    refine C_loop1 (fun (i : Nat) => (i ≤ X.length)) (fun (i : Nat) => fun g => ⟨#[g 0, g 1, g 2, g 3, g 4, .slice ao4 X.length cap5, .slice aoq Y.length capq, g 7, .slice ao66 X.length cap67, .slice ao71 Y.length cap72, .slice none 0 0, .int .i64 ((i : Nat) : Int), g 12, g 13, g 14, g 15, g 16, g 17, g 18, g 19, g 20, g 21, g 22, g 23, g 24, g 25, g 26, g 27, g 28, g 29, g 30, g 31, g 32, g 33, g 34, g 35, g 36, g 37, g 38, g 39, g 40, g 41, g 42, g 43, g 44, g 45, g 46, g 47, g 48, g 49, g 50, g 51, g 52, g 53, g 54, g 55, g 56, g 57, g 58, g 59, g 60, g 61, g 62, g 63, g 64, g 65, g 66, g 67, g 68, g 69, g 70, g 71, g 72, g 73, g 74, g 75, g 76, g 77, g 78, g 79, g 80, g 81, g 82, g 83, g 84, g 85, g 86, g 87, g 88, g 89, g 90, g 91, g 92, g 93, g 94, g 95, g 96, g 97, g 98, g 99, g 100, g 101, g 102, g 103, g 104, g 105, g 106, g 107, g 108, g 109, g 110, g 111, g 112, g 113, g 114, g 115, g 116, g 117, g 118, g 119, g 120, g 121, g 122, g 123, g 124, g 125, g 126, g 127, g 128, g 129, g 130, g 131, g 132, g 133, g 134, g 135, g 136, g 137, g 138, g 139, g 140, g 141, g 142, g 143, g 144, g 145, g 146, g 147, g 148, g 149, g 150, g 151, g 152, g 153, g 154, g 155, g 156, g 157, g 158, g 159, g 160, g 161, g 162, g 163, g 164, g 165, g 166], []⟩) (fun (i : Nat) => [] ++ ob2 ++ ob ++ ob64 ++ ob69) (fun (i : Nat) => X.length - i) 0 (by (try dsimp only); exact Nat.zero_le _) (by kernel_rfl) (by first | (dsimp only; done) | ((try dsimp only); kernel_rfl)) ?_
    rintro i g73 hi
    refine C_seq ?_
    refine C_seq ?_
    refine C_region ?_
    refine S_v (.int .i64 ((i : Nat) : Int)) ?_
    refine S_v (.slice ao4 X.length cap5) ?_
    refine S_v (.int .i64 ((X.length : Nat) : Int)) ?_
    refine S_v (.bool (decide (((i : Nat) : Int) < ((X.length : Nat) : Int)))) ?_
    refine S_nil ?_
    refine E_then ?_
    refine C_if (decide (((i : Nat) : Int) < ((X.length : Nat) : Int))) (by kernel_rfl) (fun hc => ?_) (fun hc => ?_)
    · replace hc := of_decide_eq_true hc
      obtain ⟨g74, cap75, sp76, eg74, _⟩ := Rw.op' rfl hr3 (by omega)
      cases eg74
      obtain ⟨g77, cap78, sp79, eg77, _⟩ := Rw.op' (ill_length _ _ _ _ _ _ _) hr65 (by omega)
      cases eg77
      refine C_skip ?_
      refine E_then ?_
      refine C_seq ?_
      refine C_block ?_
      refine C_seq ?_
      by_cases hz : szr (X.getD i 0) = true
      · refine C_drawn [.pure, .pure, .pure, .held, .pure, .pure, .pure, .held, .held, .held, .pure, .pure, .pure, .pure, .pure, .held, .held, .pure, .pure, .pure, .held, .held, .pure, .pure, .pure, .pure, .pure, .pure, .held, .held, .pure, .pure, .pure, .pure, .pure, .pure, .pure, .pure, .pure, .pure, .pure, .pure, .pure, .pure, .pure, .pure] (by kernel_rfl) (by kernel_rfl) ?_
        refine D_v (.slice (some ⟨g77, 0, none⟩) X.length cap67) ?_
        refine D_v (.int .i64 ((i : Nat) : Int)) ?_
        refine D_val (.pointer (some ⟨g77, 0 + i * 4, none⟩)) (by kernel_rfl) (ixS (k := .i64) g77 0 X.length cap67 4 i rfl (by kernel_rfl) (by kernel_rfl) Tryd.underlying25 Tryd.sizeOf34 (by omega)) ?_
        refine D_held (sc4 ((sll X X.length).getD i 0)) (by kernel_rfl) (ldW fs4_len 0 i g77 0 (0 + i * 4) (fun w hO => Rd.rdB (cap := cap67) (len := X.length) (Rw.rd' fs4_len (ill_length _ _ _ _ _ _ _) hr65 hO (((List.sublist_append_right (([] : List B) ++ ob2 ++ ob) ob64).trans (List.sublist_append_left (([] : List B) ++ ob2 ++ ob ++ ob64) ob69))))) rfl (by kernel_rfl) rfl (by rw [ill_length]; omega) Tryd.isAgg34 Tryd.sizeOf34) ?_
        refine D_v (.slice (some ⟨g74, 0, none⟩) X.length cap5) ?_
        refine D_v (.int .i64 ((i : Nat) : Int)) ?_
        refine D_val (.pointer (some ⟨g74, 0 + i * 4, none⟩)) (by kernel_rfl) (ixS (k := .i64) g74 0 X.length cap5 4 i rfl (by kernel_rfl) (by kernel_rfl) Tryd.underlying25 Tryd.sizeOf34 (by omega)) ?_
        refine D_held (sc4 (X.getD i 0)) (by kernel_rfl) (ldW fs4_len 0 i g74 0 (0 + i * 4) (fun w hO => Rd.rdB (cap := cap5) (len := X.length) (Rw.rd' fs4_len rfl hr3 hO (((((List.sublist_append_right (([] : List B)) ob2).trans (List.sublist_append_left (([] : List B) ++ ob2) ob)).trans (List.sublist_append_left (([] : List B) ++ ob2 ++ ob) ob64)).trans (List.sublist_append_left (([] : List B) ++ ob2 ++ ob ++ ob64) ob69))))) rfl (by kernel_rfl) rfl (by omega) Tryd.isAgg34 Tryd.sizeOf34) ?_
        refine D_call (sc4 (X.getD i 0 ^ (ll - 2) % ll)) (by kernel_rfl) (fun _ _ => by kernel_rfl) (fun w hO => (c_sinvert w (hT.own hO) (X.getD i 0) (hXs _))) ?_
        have hC80 := fun (w : World) (hG : GV 0 tbS w) => c_ssame w hG ((sll X X.length).getD i 0) (X.getD i 0 ^ (ll - 2) % ll) (sll_lt _ _ _) (Nat.lt_trans (Nat.mod_lt _ (by decide)) (by decide))
        rw [sll_same X i (by omega)] at hC80
        refine D_call (.bool true) (by kernel_rfl) (fun _ _ => by kernel_rfl) (fun w hO => (hC80 w (hT.own hO))) ?_
        refine D_v (.bool false) ?_
        refine D_v (.bool false) ?_
        refine D_v (.slice (some ⟨g74, 0, none⟩) X.length cap5) ?_
        refine D_v (.int .i64 ((i : Nat) : Int)) ?_
        refine D_val (.pointer (some ⟨g74, 0 + i * 4, none⟩)) (by kernel_rfl) (ixS (k := .i64) g74 0 X.length cap5 4 i rfl (by kernel_rfl) (by kernel_rfl) Tryd.underlying25 Tryd.sizeOf34 (by omega)) ?_
        refine D_held (sc4 (X.getD i 0)) (by kernel_rfl) (ldW fs4_len 0 i g74 0 (0 + i * 4) (fun w hO => Rd.rdB (cap := cap5) (len := X.length) (Rw.rd' fs4_len rfl hr3 hO (((((List.sublist_append_right (([] : List B)) ob2).trans (List.sublist_append_left (([] : List B) ++ ob2) ob)).trans (List.sublist_append_left (([] : List B) ++ ob2 ++ ob) ob64)).trans (List.sublist_append_left (([] : List B) ++ ob2 ++ ob ++ ob64) ob69))))) rfl (by kernel_rfl) rfl (by omega) Tryd.isAgg34 Tryd.sizeOf34) ?_
        have hC81 := fun (w : World) (hG : GV 0 tbS w) => c_szero w hG (X.getD i 0) (hXs _)
        rw [show decide (X.getD i 0 % ll = 0) = true from hz] at hC81
        refine D_call (.bool true) (by kernel_rfl) (fun _ _ => by kernel_rfl) (fun w hO => (hC81 w (hT.own hO))) ?_
        refine D_v (.slice (some ⟨g77, 0, none⟩) X.length cap67) ?_
        refine D_v (.int .i64 ((i : Nat) : Int)) ?_
        refine D_val (.pointer (some ⟨g77, 0 + i * 4, none⟩)) (by kernel_rfl) (ixS (k := .i64) g77 0 X.length cap67 4 i rfl (by kernel_rfl) (by kernel_rfl) Tryd.underlying25 Tryd.sizeOf34 (by omega)) ?_
        refine D_held (sc4 ((sll X X.length).getD i 0)) (by kernel_rfl) (ldW fs4_len 0 i g77 0 (0 + i * 4) (fun w hO => Rd.rdB (cap := cap67) (len := X.length) (Rw.rd' fs4_len (ill_length _ _ _ _ _ _ _) hr65 hO (((List.sublist_append_right (([] : List B) ++ ob2 ++ ob) ob64).trans (List.sublist_append_left (([] : List B) ++ ob2 ++ ob ++ ob64) ob69))))) rfl (by kernel_rfl) rfl (by rw [ill_length]; omega) Tryd.isAgg34 Tryd.sizeOf34) ?_
        have hC82 := fun (w : World) (hG : GV 0 tbS w) => c_szero w hG ((sll X X.length).getD i 0) (sll_lt _ _ _)
        rw [show decide ((sll X X.length).getD i 0 % ll = 0) = true from (sll_zero X i (by omega)).trans hz] at hC82
        refine D_call (.bool true) (by kernel_rfl) (fun _ _ => by kernel_rfl) (fun w hO => (hC82 w (hT.own hO))) ?_
        refine D_v (.bool false) ?_
        refine D_v (.bool false) ?_
        refine D_v (.bool false) ?_
        refine D_v (.slice (some ⟨g74, 0, none⟩) X.length cap5) ?_
        refine D_v (.int .i64 ((i : Nat) : Int)) ?_
        refine D_val (.pointer (some ⟨g74, 0 + i * 4, none⟩)) (by kernel_rfl) (ixS (k := .i64) g74 0 X.length cap5 4 i rfl (by kernel_rfl) (by kernel_rfl) Tryd.underlying25 Tryd.sizeOf34 (by omega)) ?_
        refine D_held (sc4 (X.getD i 0)) (by kernel_rfl) (ldW fs4_len 0 i g74 0 (0 + i * 4) (fun w hO => Rd.rdB (cap := cap5) (len := X.length) (Rw.rd' fs4_len rfl hr3 hO (((((List.sublist_append_right (([] : List B)) ob2).trans (List.sublist_append_left (([] : List B) ++ ob2) ob)).trans (List.sublist_append_left (([] : List B) ++ ob2 ++ ob) ob64)).trans (List.sublist_append_left (([] : List B) ++ ob2 ++ ob ++ ob64) ob69))))) rfl (by kernel_rfl) rfl (by omega) Tryd.isAgg34 Tryd.sizeOf34) ?_
        have hC83 := fun (w : World) (hG : GV 0 tbS w) => c_szero w hG (X.getD i 0) (hXs _)
        rw [show decide (X.getD i 0 % ll = 0) = true from hz] at hC83
        refine D_call (.bool true) (by kernel_rfl) (fun _ _ => by kernel_rfl) (fun w hO => (hC83 w (hT.own hO))) ?_
        refine D_v (.bool false) ?_
        refine D_v (.bool false) ?_
        refine D_not (by kernel_rfl) ?_
        refine D_not (by kernel_rfl) ?_
        refine D_not (by kernel_rfl) ?_
        refine D_not (by kernel_rfl) ?_
        refine D_not (by kernel_rfl) ?_
        refine D_not (by kernel_rfl) ?_
        refine D_not (by kernel_rfl) ?_
        refine D_not (by kernel_rfl) ?_
        refine D_not (by kernel_rfl) ?_
        refine D_not (by kernel_rfl) ?_
        refine D_not (by kernel_rfl) ?_
        refine D_not (by kernel_rfl) ?_
        refine D_v (.bool false) ?_
        refine D_v (.bool false) ?_
        refine D_nil ?_
        refine E_then ?_
        refine C_false (by kernel_rfl) ?_
        refine C_skip ?_
        refine E_inblock ?_
        refine E_then ?_
        refine C_region ?_
        refine S_v (.int .i64 ((i : Nat) : Int)) ?_
        refine S_val (.int .i64 ((i + 1 : Nat) : Int)) (by kernel_rfl) (fun _ _ => fv (v := .int .i64 (IntKind.i64.wrap (((i : Nat) : Int) + 1))) (vint (w64 (by omega) (by omega) (by omega))) (by kernel_rfl)) ?_
        refine S_v (.int .i64 ((i + 1 : Nat) : Int)) ?_
        refine S_nil ?_
        exact E_norm (fun w hw => ⟨i + 1, by omega, (by kernel_rfl), (by (try dsimp only); omega), hw⟩)
      · refine C_drawn [.pure, .pure, .pure, .held, .pure, .pure, .pure, .held, .held, .held, .pure, .pure, .pure, .pure, .pure, .held, .held, .pure, .pure, .pure, .held, .held, .pure, .pure, .pure, .pure, .pure, .pure, .held, .held, .pure, .pure, .pure, .pure, .pure, .held, .pure, .pure, .pure, .held, .held, .held, .held, .pure, .pure, .pure] (by kernel_rfl) (by kernel_rfl) ?_
        refine D_v (.slice (some ⟨g77, 0, none⟩) X.length cap67) ?_
        refine D_v (.int .i64 ((i : Nat) : Int)) ?_
        refine D_val (.pointer (some ⟨g77, 0 + i * 4, none⟩)) (by kernel_rfl) (ixS (k := .i64) g77 0 X.length cap67 4 i rfl (by kernel_rfl) (by kernel_rfl) Tryd.underlying25 Tryd.sizeOf34 (by omega)) ?_
        refine D_held (sc4 ((sll X X.length).getD i 0)) (by kernel_rfl) (ldW fs4_len 0 i g77 0 (0 + i * 4) (fun w hO => Rd.rdB (cap := cap67) (len := X.length) (Rw.rd' fs4_len (ill_length _ _ _ _ _ _ _) hr65 hO (((List.sublist_append_right (([] : List B) ++ ob2 ++ ob) ob64).trans (List.sublist_append_left (([] : List B) ++ ob2 ++ ob ++ ob64) ob69))))) rfl (by kernel_rfl) rfl (by rw [ill_length]; omega) Tryd.isAgg34 Tryd.sizeOf34) ?_
        refine D_v (.slice (some ⟨g74, 0, none⟩) X.length cap5) ?_
        refine D_v (.int .i64 ((i : Nat) : Int)) ?_
        refine D_val (.pointer (some ⟨g74, 0 + i * 4, none⟩)) (by kernel_rfl) (ixS (k := .i64) g74 0 X.length cap5 4 i rfl (by kernel_rfl) (by kernel_rfl) Tryd.underlying25 Tryd.sizeOf34 (by omega)) ?_
        refine D_held (sc4 (X.getD i 0)) (by kernel_rfl) (ldW fs4_len 0 i g74 0 (0 + i * 4) (fun w hO => Rd.rdB (cap := cap5) (len := X.length) (Rw.rd' fs4_len rfl hr3 hO (((((List.sublist_append_right (([] : List B)) ob2).trans (List.sublist_append_left (([] : List B) ++ ob2) ob)).trans (List.sublist_append_left (([] : List B) ++ ob2 ++ ob) ob64)).trans (List.sublist_append_left (([] : List B) ++ ob2 ++ ob ++ ob64) ob69))))) rfl (by kernel_rfl) rfl (by omega) Tryd.isAgg34 Tryd.sizeOf34) ?_
        refine D_call (sc4 (X.getD i 0 ^ (ll - 2) % ll)) (by kernel_rfl) (fun _ _ => by kernel_rfl) (fun w hO => (c_sinvert w (hT.own hO) (X.getD i 0) (hXs _))) ?_
        have hC84 := fun (w : World) (hG : GV 0 tbS w) => c_ssame w hG ((sll X X.length).getD i 0) (X.getD i 0 ^ (ll - 2) % ll) (sll_lt _ _ _) (Nat.lt_trans (Nat.mod_lt _ (by decide)) (by decide))
        rw [sll_same X i (by omega)] at hC84
        refine D_call (.bool true) (by kernel_rfl) (fun _ _ => by kernel_rfl) (fun w hO => (hC84 w (hT.own hO))) ?_
        refine D_v (.bool false) ?_
        refine D_v (.bool false) ?_
        refine D_v (.slice (some ⟨g74, 0, none⟩) X.length cap5) ?_
        refine D_v (.int .i64 ((i : Nat) : Int)) ?_
        refine D_val (.pointer (some ⟨g74, 0 + i * 4, none⟩)) (by kernel_rfl) (ixS (k := .i64) g74 0 X.length cap5 4 i rfl (by kernel_rfl) (by kernel_rfl) Tryd.underlying25 Tryd.sizeOf34 (by omega)) ?_
        refine D_held (sc4 (X.getD i 0)) (by kernel_rfl) (ldW fs4_len 0 i g74 0 (0 + i * 4) (fun w hO => Rd.rdB (cap := cap5) (len := X.length) (Rw.rd' fs4_len rfl hr3 hO (((((List.sublist_append_right (([] : List B)) ob2).trans (List.sublist_append_left (([] : List B) ++ ob2) ob)).trans (List.sublist_append_left (([] : List B) ++ ob2 ++ ob) ob64)).trans (List.sublist_append_left (([] : List B) ++ ob2 ++ ob ++ ob64) ob69))))) rfl (by kernel_rfl) rfl (by omega) Tryd.isAgg34 Tryd.sizeOf34) ?_
        have hC85 := fun (w : World) (hG : GV 0 tbS w) => c_szero w hG (X.getD i 0) (hXs _)
        rw [show decide (X.getD i 0 % ll = 0) = false from eq_false_of_ne_true hz] at hC85
        refine D_call (.bool false) (by kernel_rfl) (fun _ _ => by kernel_rfl) (fun w hO => (hC85 w (hT.own hO))) ?_
        refine D_v (.slice (some ⟨g77, 0, none⟩) X.length cap67) ?_
        refine D_v (.int .i64 ((i : Nat) : Int)) ?_
        refine D_val (.pointer (some ⟨g77, 0 + i * 4, none⟩)) (by kernel_rfl) (ixS (k := .i64) g77 0 X.length cap67 4 i rfl (by kernel_rfl) (by kernel_rfl) Tryd.underlying25 Tryd.sizeOf34 (by omega)) ?_
        refine D_held (sc4 ((sll X X.length).getD i 0)) (by kernel_rfl) (ldW fs4_len 0 i g77 0 (0 + i * 4) (fun w hO => Rd.rdB (cap := cap67) (len := X.length) (Rw.rd' fs4_len (ill_length _ _ _ _ _ _ _) hr65 hO (((List.sublist_append_right (([] : List B) ++ ob2 ++ ob) ob64).trans (List.sublist_append_left (([] : List B) ++ ob2 ++ ob ++ ob64) ob69))))) rfl (by kernel_rfl) rfl (by rw [ill_length]; omega) Tryd.isAgg34 Tryd.sizeOf34) ?_
        have hC86 := fun (w : World) (hG : GV 0 tbS w) => c_szero w hG ((sll X X.length).getD i 0) (sll_lt _ _ _)
        rw [show decide ((sll X X.length).getD i 0 % ll = 0) = false from (sll_zero X i (by omega)).trans (eq_false_of_ne_true hz)] at hC86
        refine D_call (.bool false) (by kernel_rfl) (fun _ _ => by kernel_rfl) (fun w hO => (hC86 w (hT.own hO))) ?_
        refine D_v (.bool false) ?_
        refine D_v (.bool false) ?_
        refine D_v (.bool false) ?_
        refine D_v (.slice (some ⟨g74, 0, none⟩) X.length cap5) ?_
        refine D_v (.int .i64 ((i : Nat) : Int)) ?_
        refine D_val (.pointer (some ⟨g74, 0 + i * 4, none⟩)) (by kernel_rfl) (ixS (k := .i64) g74 0 X.length cap5 4 i rfl (by kernel_rfl) (by kernel_rfl) Tryd.underlying25 Tryd.sizeOf34 (by omega)) ?_
        refine D_held (sc4 (X.getD i 0)) (by kernel_rfl) (ldW fs4_len 0 i g74 0 (0 + i * 4) (fun w hO => Rd.rdB (cap := cap5) (len := X.length) (Rw.rd' fs4_len rfl hr3 hO (((((List.sublist_append_right (([] : List B)) ob2).trans (List.sublist_append_left (([] : List B) ++ ob2) ob)).trans (List.sublist_append_left (([] : List B) ++ ob2 ++ ob) ob64)).trans (List.sublist_append_left (([] : List B) ++ ob2 ++ ob ++ ob64) ob69))))) rfl (by kernel_rfl) rfl (by omega) Tryd.isAgg34 Tryd.sizeOf34) ?_
        have hC87 := fun (w : World) (hG : GV 0 tbS w) => c_szero w hG (X.getD i 0) (hXs _)
        rw [show decide (X.getD i 0 % ll = 0) = false from eq_false_of_ne_true hz] at hC87
        refine D_call (.bool false) (by kernel_rfl) (fun _ _ => by kernel_rfl) (fun w hO => (hC87 w (hT.own hO))) ?_
        refine D_v (.bool true) ?_
        refine D_v (.bool true) ?_
        refine D_v (.slice (some ⟨g77, 0, none⟩) X.length cap67) ?_
        refine D_v (.int .i64 ((i : Nat) : Int)) ?_
        refine D_val (.pointer (some ⟨g77, 0 + i * 4, none⟩)) (by kernel_rfl) (ixS (k := .i64) g77 0 X.length cap67 4 i rfl (by kernel_rfl) (by kernel_rfl) Tryd.underlying25 Tryd.sizeOf34 (by omega)) ?_
        refine D_held (sc4 ((sll X X.length).getD i 0)) (by kernel_rfl) (ldW fs4_len 0 i g77 0 (0 + i * 4) (fun w hO => Rd.rdB (cap := cap67) (len := X.length) (Rw.rd' fs4_len (ill_length _ _ _ _ _ _ _) hr65 hO (((List.sublist_append_right (([] : List B) ++ ob2 ++ ob) ob64).trans (List.sublist_append_left (([] : List B) ++ ob2 ++ ob ++ ob64) ob69))))) rfl (by kernel_rfl) rfl (by rw [ill_length]; omega) Tryd.isAgg34 Tryd.sizeOf34) ?_
        refine D_v (.slice (some ⟨g74, 0, none⟩) X.length cap5) ?_
        refine D_v (.int .i64 ((i : Nat) : Int)) ?_
        refine D_val (.pointer (some ⟨g74, 0 + i * 4, none⟩)) (by kernel_rfl) (ixS (k := .i64) g74 0 X.length cap5 4 i rfl (by kernel_rfl) (by kernel_rfl) Tryd.underlying25 Tryd.sizeOf34 (by omega)) ?_
        refine D_held (sc4 (X.getD i 0)) (by kernel_rfl) (ldW fs4_len 0 i g74 0 (0 + i * 4) (fun w hO => Rd.rdB (cap := cap5) (len := X.length) (Rw.rd' fs4_len rfl hr3 hO (((((List.sublist_append_right (([] : List B)) ob2).trans (List.sublist_append_left (([] : List B) ++ ob2) ob)).trans (List.sublist_append_left (([] : List B) ++ ob2 ++ ob) ob64)).trans (List.sublist_append_left (([] : List B) ++ ob2 ++ ob ++ ob64) ob69))))) rfl (by kernel_rfl) rfl (by omega) Tryd.isAgg34 Tryd.sizeOf34) ?_
        refine D_call (sc4 ((sll X X.length).getD i 0 * X.getD i 0 % ll)) (by kernel_rfl) (fun _ _ => by kernel_rfl) (fun w hO => (c_smul w (hT.own hO) ((sll X X.length).getD i 0) (X.getD i 0) (sll_lt _ _ _) (hXs _))) ?_
        refine D_pure (v := .agg #[.int .u64 1, .int .u64 0, .int .u64 0, .int .u64 0]) (by kernel_rfl) (c_sint 1) (fun _ => by kernel_rfl) ?_
        have hC88 := fun (w : World) (hG : GV 0 tbS w) => c_ssame w hG ((sll X X.length).getD i 0 * X.getD i 0 % ll) 1 (Nat.lt_trans (Nat.mod_lt _ (by decide)) (by decide)) (by decide)
        rw [sll_one X i (by omega) hz] at hC88
        refine D_call (.bool true) (by kernel_rfl) (fun _ _ => by kernel_rfl) (fun w hO => (hC88 w (hT.own hO))) ?_
        refine D_v (.bool false) ?_
        refine D_v (.bool false) ?_
        refine D_v (.bool false) ?_
        refine D_nil ?_
        refine E_then ?_
        refine C_false (by kernel_rfl) ?_
        refine C_skip ?_
        refine E_inblock ?_
        refine E_then ?_
        refine C_region ?_
        refine S_v (.int .i64 ((i : Nat) : Int)) ?_
        refine S_val (.int .i64 ((i + 1 : Nat) : Int)) (by kernel_rfl) (fun _ _ => fv (v := .int .i64 (IntKind.i64.wrap (((i : Nat) : Int) + 1))) (vint (w64 (by omega) (by omega) (by omega))) (by kernel_rfl)) ?_
        refine S_v (.int .i64 ((i + 1 : Nat) : Int)) ?_
        refine S_nil ?_
        exact E_norm (fun w hw => ⟨i + 1, by omega, (by kernel_rfl), (by (try dsimp only); omega), hw⟩)
    · replace hc := of_decide_eq_false hc
      obtain rfl : i = X.length := by omega
      refine C_exit ?_
      refine E_pass_exit ?_
      refine E_pass_exit ?_
      refine E_outblock ?_
      refine E_then ?_
      refine C_seq ?_
      refine C_seq ?_
      refine C_region ?_
      refine S_v (.int .i64 0) ?_
      refine S_nil ?_
      refine E_then ?_
      refine C_block ?_
      refine C_loop3 (fun (i : Nat) (v : Value) (oba : List B) => (i ≤ Y.length) ∧ (Rw 31 5 v (2 * i) ((bal Y i).flatMap ff5) oba)) (fun (i : Nat) (v : Value) (oba : List B) => fun g => ⟨#[g 0, g 1, g 2, g 3, g 4, g 5, .slice aoq Y.length capq, g 7, g 8, .slice ao71 Y.length cap72, v, g 11, .int .i64 ((i : Nat) : Int), g 13, g 14, g 15, g 16, g 17, g 18, g 19, g 20, g 21, g 22, g 23, g 24, g 25, g 26, g 27, g 28, g 29, g 30, g 31, g 32, g 33, g 34, g 35, g 36, g 37, g 38, g 39, g 40, g 41, g 42, g 43, g 44, g 45, g 46, g 47, g 48, g 49, g 50, g 51, g 52, g 53, g 54, g 55, g 56, g 57, g 58, g 59, g 60, g 61, g 62, g 63, g 64, g 65, g 66, g 67, g 68, g 69, g 70, g 71, g 72, g 73, g 74, g 75, g 76, g 77, g 78, g 79, g 80, g 81, g 82, g 83, g 84, g 85, g 86, g 87, g 88, g 89, g 90, g 91, g 92, g 93, g 94, g 95, g 96, g 97, g 98, g 99, g 100, g 101, g 102, g 103, g 104, g 105, g 106, g 107, g 108, g 109, g 110, g 111, g 112, g 113, g 114, g 115, g 116, g 117, g 118, g 119, g 120, g 121, g 122, g 123, g 124, g 125, g 126, g 127, g 128, g 129, g 130, g 131, g 132, g 133, g 134, g 135, g 136, g 137, g 138, g 139, g 140, g 141, g 142, g 143, g 144, g 145, g 146, g 147, g 148, g 149, g 150, g 151, g 152, g 153, g 154, g 155, g 156, g 157, g 158, g 159, g 160, g 161, g 162, g 163, g 164, g 165, g 166], []⟩) (fun (i : Nat) (v : Value) (oba : List B) => [] ++ ob2 ++ ob ++ ob64 ++ ob69 ++ oba) (fun (i : Nat) (v : Value) (oba : List B) => Y.length - i) 0 (.slice none 0 0) [] (by (try dsimp only); exact ⟨Nat.zero_le _, Rw.nil 31 5⟩) (by kernel_rfl) (by first | (dsimp only; done) | ((try dsimp only); simp)) ?_
      rintro i v oba g89 ⟨hi, hr2⟩
      refine C_seq ?_
      refine C_seq ?_
      refine C_region ?_
      refine S_v (.int .i64 ((i : Nat) : Int)) ?_
      refine S_v (.slice aoq Y.length capq) ?_
      refine S_v (.int .i64 ((Y.length : Nat) : Int)) ?_
      refine S_v (.bool (decide (((i : Nat) : Int) < ((Y.length : Nat) : Int)))) ?_
      refine S_nil ?_
      refine E_then ?_
      refine C_if (decide (((i : Nat) : Int) < ((Y.length : Nat) : Int))) (by kernel_rfl) (fun hc => ?_) (fun hc => ?_)
      · replace hc := of_decide_eq_true hc
        obtain ⟨g90, cap91, sp92, eg90, _⟩ := Rw.op' rfl hr (by omega)
        cases eg90
        obtain ⟨g93, cap94, sp95, eg93, _⟩ := Rw.op' (ill_length _ _ _ _ _ _ _) hr70 (by omega)
        cases eg93
        refine C_skip ?_
        refine E_then ?_
        refine C_seq ?_
        refine C_block ?_
        refine C_seq ?_
        refine C_seq ?_
        by_cases hz : fzr (Y.getD i F5.z) = true
        · refine C_drawn [.pure, .pure, .pure, .held, .pure, .pure, .pure, .held, .held, .held, .pure, .pure, .pure, .pure, .pure, .held, .held, .pure, .pure, .pure, .pure, .pure, .pure, .pure, .pure, .pure, .pure, .pure, .pure, .pure, .pure, .pure, .pure] (by kernel_rfl) (by kernel_rfl) ?_
          refine D_v (.slice (some ⟨g93, 0, none⟩) Y.length cap72) ?_
          refine D_v (.int .i64 ((i : Nat) : Int)) ?_
          refine D_val (.pointer (some ⟨g93, 0 + i * 5, none⟩)) (by kernel_rfl) (ixS (k := .i64) g93 0 Y.length cap72 5 i rfl (by kernel_rfl) (by kernel_rfl) Tryd.underlying28 Tryd.sizeOf31 (by omega)) ?_
          refine D_held (F5.v ((fll Y Y.length).getD i F5.z)) (by kernel_rfl) (ldW ff5_len F5.z i g93 0 (0 + i * 5) (fun w hO => Rd.rdB (cap := cap72) (len := Y.length) (Rw.rd' ff5_len (ill_length _ _ _ _ _ _ _) hr70 hO (((List.sublist_append_right (([] : List B) ++ ob2 ++ ob ++ ob64) ob69).trans (List.sublist_append_left (([] : List B) ++ ob2 ++ ob ++ ob64 ++ ob69) oba))))) rfl (by kernel_rfl) rfl (by rw [ill_length]; omega) Tryd.isAgg31 Tryd.sizeOf31) ?_
          refine D_v (.slice (some ⟨g90, 0, none⟩) Y.length capq) ?_
          refine D_v (.int .i64 ((i : Nat) : Int)) ?_
          refine D_val (.pointer (some ⟨g90, 0 + i * 5, none⟩)) (by kernel_rfl) (ixS (k := .i64) g90 0 Y.length capq 5 i rfl (by kernel_rfl) (by kernel_rfl) Tryd.underlying28 Tryd.sizeOf31 (by omega)) ?_
          refine D_held (F5.v (Y.getD i F5.z)) (by kernel_rfl) (ldW ff5_len F5.z i g90 0 (0 + i * 5) (fun w hO => Rd.rdB (cap := capq) (len := Y.length) (Rw.rd' ff5_len rfl hr hO (((((List.sublist_append_right (([] : List B) ++ ob2) ob).trans (List.sublist_append_left (([] : List B) ++ ob2 ++ ob) ob64)).trans (List.sublist_append_left (([] : List B) ++ ob2 ++ ob ++ ob64) ob69)).trans (List.sublist_append_left (([] : List B) ++ ob2 ++ ob ++ ob64 ++ ob69) oba))))) rfl (by kernel_rfl) rfl (by omega) Tryd.isAgg31 Tryd.sizeOf31) ?_
          refine D_pure (v := F5.v (F5.of ((Y.getD i F5.z).val ^ (pp - 2) % pp))) (by kernel_rfl) (c_finvert (Y.getD i F5.z) (hYs _)) (fun _ => by kernel_rfl) ?_
          have hC96 := c_fsame ((fll Y Y.length).getD i F5.z) (F5.of ((Y.getD i F5.z).val ^ (pp - 2) % pp)) (fll_ok _ _ _) (F5.of_ok _)
          rw [fll_same Y i (by omega)] at hC96
          refine D_pure (v := .bool true) (by kernel_rfl) hC96 (fun _ => by kernel_rfl) ?_
          refine D_v (.bool false) ?_
          refine D_v (.bool false) ?_
          refine D_v (.slice (some ⟨g90, 0, none⟩) Y.length capq) ?_
          refine D_v (.int .i64 ((i : Nat) : Int)) ?_
          refine D_val (.pointer (some ⟨g90, 0 + i * 5, none⟩)) (by kernel_rfl) (ixS (k := .i64) g90 0 Y.length capq 5 i rfl (by kernel_rfl) (by kernel_rfl) Tryd.underlying28 Tryd.sizeOf31 (by omega)) ?_
          refine D_held (F5.v (Y.getD i F5.z)) (by kernel_rfl) (ldW ff5_len F5.z i g90 0 (0 + i * 5) (fun w hO => Rd.rdB (cap := capq) (len := Y.length) (Rw.rd' ff5_len rfl hr hO (((((List.sublist_append_right (([] : List B) ++ ob2) ob).trans (List.sublist_append_left (([] : List B) ++ ob2 ++ ob) ob64)).trans (List.sublist_append_left (([] : List B) ++ ob2 ++ ob ++ ob64) ob69)).trans (List.sublist_append_left (([] : List B) ++ ob2 ++ ob ++ ob64 ++ ob69) oba))))) rfl (by kernel_rfl) rfl (by omega) Tryd.isAgg31 Tryd.sizeOf31) ?_
          have hC97 := c_fzero (Y.getD i F5.z) (hYs _)
          rw [show decide ((Y.getD i F5.z).val % pp = 0) = true from hz] at hC97
          refine D_pure (v := .bool true) (by kernel_rfl) hC97 (fun _ => by kernel_rfl) ?_
          refine D_v (.bool false) ?_
          refine D_v (.bool false) ?_
          refine D_not (by kernel_rfl) ?_
          refine D_not (by kernel_rfl) ?_
          refine D_not (by kernel_rfl) ?_
          refine D_not (by kernel_rfl) ?_
          refine D_not (by kernel_rfl) ?_
          refine D_not (by kernel_rfl) ?_
          refine D_not (by kernel_rfl) ?_
          refine D_not (by kernel_rfl) ?_
          refine D_not (by kernel_rfl) ?_
          refine D_not (by kernel_rfl) ?_
          refine D_not (by kernel_rfl) ?_
          refine D_not (by kernel_rfl) ?_
          refine D_v (.bool false) ?_
          refine D_v (.bool false) ?_
          refine D_nil ?_
          refine E_then ?_
          refine C_false (by kernel_rfl) ?_
          refine C_skip ?_
          refine E_then ?_
          refine C_drawn [.pure, .pure, .pure, .pure, .held, .pure, .pure, .pure, .held, .held, .new, .eff, .pure] (by kernel_rfl) (by kernel_rfl) ?_
          refine D_v (v) ?_
          refine D_v (.slice (some ⟨g90, 0, none⟩) Y.length capq) ?_
          refine D_v (.int .i64 ((i : Nat) : Int)) ?_
          refine D_val (.pointer (some ⟨g90, 0 + i * 5, none⟩)) (by kernel_rfl) (ixS (k := .i64) g90 0 Y.length capq 5 i rfl (by kernel_rfl) (by kernel_rfl) Tryd.underlying28 Tryd.sizeOf31 (by omega)) ?_
          refine D_held (F5.v (Y.getD i F5.z)) (by kernel_rfl) (ldW ff5_len F5.z i g90 0 (0 + i * 5) (fun w hO => Rd.rdB (cap := capq) (len := Y.length) (Rw.rd' ff5_len rfl hr hO (((((List.sublist_append_right (([] : List B) ++ ob2) ob).trans (List.sublist_append_left (([] : List B) ++ ob2 ++ ob) ob64)).trans (List.sublist_append_left (([] : List B) ++ ob2 ++ ob ++ ob64) ob69)).trans (List.sublist_append_left (([] : List B) ++ ob2 ++ ob ++ ob64 ++ ob69) oba))))) rfl (by kernel_rfl) rfl (by omega) Tryd.isAgg31 Tryd.sizeOf31) ?_
          refine D_v (.slice (some ⟨g90, 0, none⟩) Y.length capq) ?_
          refine D_v (.int .i64 ((i : Nat) : Int)) ?_
          refine D_val (.pointer (some ⟨g90, 0 + i * 5, none⟩)) (by kernel_rfl) (ixS (k := .i64) g90 0 Y.length capq 5 i rfl (by kernel_rfl) (by kernel_rfl) Tryd.underlying28 Tryd.sizeOf31 (by omega)) ?_
          refine D_held (F5.v (Y.getD i F5.z)) (by kernel_rfl) (ldW ff5_len F5.z i g90 0 (0 + i * 5) (fun w hO => Rd.rdB (cap := capq) (len := Y.length) (Rw.rd' ff5_len rfl hr hO (((((List.sublist_append_right (([] : List B) ++ ob2) ob).trans (List.sublist_append_left (([] : List B) ++ ob2 ++ ob) ob64)).trans (List.sublist_append_left (([] : List B) ++ ob2 ++ ob ++ ob64) ob69)).trans (List.sublist_append_left (([] : List B) ++ ob2 ++ ob ++ ob64 ++ ob69) oba))))) rfl (by kernel_rfl) rfl (by omega) Tryd.isAgg31 Tryd.sizeOf31) ?_
          refine D_pure (v := F5.v (fng (Y.getD i F5.z))) (by kernel_rfl) (c_fneg (Y.getD i F5.z) (hYs _)) (fun _ => by kernel_rfl) ?_
          refine D_fresh (fun nb0 => .slice (some ⟨nb0, 0, none⟩) 2 2) [wd ((Y.getD i F5.z).l0), wd ((Y.getD i F5.z).l1), wd ((Y.getD i F5.z).l2), wd ((Y.getD i F5.z).l3), wd ((Y.getD i F5.z).l4), wd ((fng (Y.getD i F5.z)).l0), wd ((fng (Y.getD i F5.z)).l1), wd ((fng (Y.getD i F5.z)).l2), wd ((fng (Y.getD i F5.z)).l3), wd ((fng (Y.getD i F5.z)).l4)] 31 (by kernel_rfl) (fun w _ => by kernel_rfl) ?_
          intro b98 hb98 Hb98
          refine D_app (sz := 5) (n := (2 * i) + 2) (xs := ((bal Y i).flatMap ff5) ++ [wd ((Y.getD i F5.z).l0), wd ((Y.getD i F5.z).l1), wd ((Y.getD i F5.z).l2), wd ((Y.getD i F5.z).l3), wd ((Y.getD i F5.z).l4), wd ((fng (Y.getD i F5.z)).l0), wd ((fng (Y.getD i F5.z)).l1), wd ((fng (Y.getD i F5.z)).l2), wd ((fng (Y.getD i F5.z)).l3), wd ((fng (Y.getD i F5.z)).l4)]) (fun ob' => [⟨b98, [wd ((Y.getD i F5.z).l0), wd ((Y.getD i F5.z).l1), wd ((Y.getD i F5.z).l2), wd ((Y.getD i F5.z).l3), wd ((Y.getD i F5.z).l4), wd ((fng (Y.getD i F5.z)).l0), wd ((fng (Y.getD i F5.z)).l1), wd ((fng (Y.getD i F5.z)).l2), wd ((fng (Y.getD i F5.z)).l3), wd ((fng (Y.getD i F5.z)).l4)], 31⟩] ++ ob2 ++ ob ++ ob64 ++ ob69 ++ ob') (Rw.inh (m := 2) hr2.1 (by kernel_rfl) (le_maxLen (by omega))) (by intro ob'; simp) (by kernel_rfl) (up_app (L1 := [⟨b98, [wd ((Y.getD i F5.z).l0), wd ((Y.getD i F5.z).l1), wd ((Y.getD i F5.z).l2), wd ((Y.getD i F5.z).l3), wd ((Y.getD i F5.z).l4), wd ((fng (Y.getD i F5.z)).l0), wd ((fng (Y.getD i F5.z)).l1), wd ((fng (Y.getD i F5.z)).l2), wd ((fng (Y.getD i F5.z)).l3), wd ((fng (Y.getD i F5.z)).l4)], 31⟩] ++ ob2 ++ ob ++ ob64 ++ ob69) (ob := oba) (L2 := []) (n := 2 * i) (xs := ((bal Y i).flatMap ff5)) 28 31 Tryd.t31 (.agg #[.int .u64 0, .int .u64 0, .int .u64 0, .int .u64 0, .int .u64 0]) Tryd.underlying28 (by kernel_rfl) (by kernel_rfl) (by kernel_rfl) rfl hr2 (by simp) ⟨b98, 0, none⟩ 2 2 [wd ((Y.getD i F5.z).l0), wd ((Y.getD i F5.z).l1), wd ((Y.getD i F5.z).l2), wd ((Y.getD i F5.z).l3), wd ((Y.getD i F5.z).l4), wd ((fng (Y.getD i F5.z)).l0), wd ((fng (Y.getD i F5.z)).l1), wd ((fng (Y.getD i F5.z)).l2), wd ((fng (Y.getD i F5.z)).l3), wd ((fng (Y.getD i F5.z)).l4)] (by kernel_rfl) (by kernel_rfl) (by kernel_rfl) (fun w hO j9 u9 hu => by rw [add_none, Nat.zero_add, hO.cellAt 0 (b := b98) (cs := [wd ((Y.getD i F5.z).l0), wd ((Y.getD i F5.z).l1), wd ((Y.getD i F5.z).l2), wd ((Y.getD i F5.z).l3), wd ((Y.getD i F5.z).l4), wd ((fng (Y.getD i F5.z)).l0), wd ((fng (Y.getD i F5.z)).l1), wd ((fng (Y.getD i F5.z)).l2), wd ((fng (Y.getD i F5.z)).l3), wd ((fng (Y.getD i F5.z)).l4)]) (ty := 31) (by kernel_rfl)]; exact hu) (by simp [Value.oneCell']) (by decide) (by simp only [Tryd.t31]; omega) (le_maxLen (by omega))) ?_
          intro v99 ob100 hr101
          replace hr101 : Rw 31 5 v99 ((2 * i) + 2) (((bal Y i) ++ [(Y.getD i F5.z), (fng (Y.getD i F5.z))]).flatMap ff5) ob100 := by first | exact hr101 | (rw [List.flatMap_append]; exact hr101)
          refine D_v (v99) ?_
          refine D_nil ?_
          refine E_inblock ?_
          refine E_then ?_
          refine C_region ?_
          refine S_v (.int .i64 ((i : Nat) : Int)) ?_
          refine S_val (.int .i64 ((i + 1 : Nat) : Int)) (by kernel_rfl) (fun _ _ => fv (v := .int .i64 (IntKind.i64.wrap (((i : Nat) : Int) + 1))) (vint (w64 (by omega) (by omega) (by omega))) (by kernel_rfl)) ?_
          refine S_v (.int .i64 ((i + 1 : Nat) : Int)) ?_
          refine S_nil ?_
          exact E_norm (fun w hw => ⟨i + 1, v99, ob100, ⟨by omega, by rw [bal_succ Y (by omega), show 2 * (i + 1) = 2 * i + 2 by omega]; exact hr101⟩, (by kernel_rfl), (by (try dsimp only); omega), hw.tail⟩)
        · refine C_drawn [.pure, .pure, .pure, .held, .pure, .pure, .pure, .held, .held, .held, .pure, .pure, .pure, .pure, .pure, .held, .held, .pure, .pure, .pure, .pure, .pure, .held, .pure, .pure, .pure, .held, .held, .held, .held, .pure, .pure, .pure] (by kernel_rfl) (by kernel_rfl) ?_
          refine D_v (.slice (some ⟨g93, 0, none⟩) Y.length cap72) ?_
          refine D_v (.int .i64 ((i : Nat) : Int)) ?_
          refine D_val (.pointer (some ⟨g93, 0 + i * 5, none⟩)) (by kernel_rfl) (ixS (k := .i64) g93 0 Y.length cap72 5 i rfl (by kernel_rfl) (by kernel_rfl) Tryd.underlying28 Tryd.sizeOf31 (by omega)) ?_
          refine D_held (F5.v ((fll Y Y.length).getD i F5.z)) (by kernel_rfl) (ldW ff5_len F5.z i g93 0 (0 + i * 5) (fun w hO => Rd.rdB (cap := cap72) (len := Y.length) (Rw.rd' ff5_len (ill_length _ _ _ _ _ _ _) hr70 hO (((List.sublist_append_right (([] : List B) ++ ob2 ++ ob ++ ob64) ob69).trans (List.sublist_append_left (([] : List B) ++ ob2 ++ ob ++ ob64 ++ ob69) oba))))) rfl (by kernel_rfl) rfl (by rw [ill_length]; omega) Tryd.isAgg31 Tryd.sizeOf31) ?_
          refine D_v (.slice (some ⟨g90, 0, none⟩) Y.length capq) ?_
          refine D_v (.int .i64 ((i : Nat) : Int)) ?_
          refine D_val (.pointer (some ⟨g90, 0 + i * 5, none⟩)) (by kernel_rfl) (ixS (k := .i64) g90 0 Y.length capq 5 i rfl (by kernel_rfl) (by kernel_rfl) Tryd.underlying28 Tryd.sizeOf31 (by omega)) ?_
          refine D_held (F5.v (Y.getD i F5.z)) (by kernel_rfl) (ldW ff5_len F5.z i g90 0 (0 + i * 5) (fun w hO => Rd.rdB (cap := capq) (len := Y.length) (Rw.rd' ff5_len rfl hr hO (((((List.sublist_append_right (([] : List B) ++ ob2) ob).trans (List.sublist_append_left (([] : List B) ++ ob2 ++ ob) ob64)).trans (List.sublist_append_left (([] : List B) ++ ob2 ++ ob ++ ob64) ob69)).trans (List.sublist_append_left (([] : List B) ++ ob2 ++ ob ++ ob64 ++ ob69) oba))))) rfl (by kernel_rfl) rfl (by omega) Tryd.isAgg31 Tryd.sizeOf31) ?_
          refine D_pure (v := F5.v (F5.of ((Y.getD i F5.z).val ^ (pp - 2) % pp))) (by kernel_rfl) (c_finvert (Y.getD i F5.z) (hYs _)) (fun _ => by kernel_rfl) ?_
          have hC102 := c_fsame ((fll Y Y.length).getD i F5.z) (F5.of ((Y.getD i F5.z).val ^ (pp - 2) % pp)) (fll_ok _ _ _) (F5.of_ok _)
          rw [fll_same Y i (by omega)] at hC102
          refine D_pure (v := .bool true) (by kernel_rfl) hC102 (fun _ => by kernel_rfl) ?_
          refine D_v (.bool false) ?_
          refine D_v (.bool false) ?_
          refine D_v (.slice (some ⟨g90, 0, none⟩) Y.length capq) ?_
          refine D_v (.int .i64 ((i : Nat) : Int)) ?_
          refine D_val (.pointer (some ⟨g90, 0 + i * 5, none⟩)) (by kernel_rfl) (ixS (k := .i64) g90 0 Y.length capq 5 i rfl (by kernel_rfl) (by kernel_rfl) Tryd.underlying28 Tryd.sizeOf31 (by omega)) ?_
          refine D_held (F5.v (Y.getD i F5.z)) (by kernel_rfl) (ldW ff5_len F5.z i g90 0 (0 + i * 5) (fun w hO => Rd.rdB (cap := capq) (len := Y.length) (Rw.rd' ff5_len rfl hr hO (((((List.sublist_append_right (([] : List B) ++ ob2) ob).trans (List.sublist_append_left (([] : List B) ++ ob2 ++ ob) ob64)).trans (List.sublist_append_left (([] : List B) ++ ob2 ++ ob ++ ob64) ob69)).trans (List.sublist_append_left (([] : List B) ++ ob2 ++ ob ++ ob64 ++ ob69) oba))))) rfl (by kernel_rfl) rfl (by omega) Tryd.isAgg31 Tryd.sizeOf31) ?_
          have hC103 := c_fzero (Y.getD i F5.z) (hYs _)
          rw [show decide ((Y.getD i F5.z).val % pp = 0) = false from eq_false_of_ne_true hz] at hC103
          refine D_pure (v := .bool false) (by kernel_rfl) hC103 (fun _ => by kernel_rfl) ?_
          refine D_v (.bool true) ?_
          refine D_v (.bool true) ?_
          refine D_v (.slice (some ⟨g93, 0, none⟩) Y.length cap72) ?_
          refine D_v (.int .i64 ((i : Nat) : Int)) ?_
          refine D_val (.pointer (some ⟨g93, 0 + i * 5, none⟩)) (by kernel_rfl) (ixS (k := .i64) g93 0 Y.length cap72 5 i rfl (by kernel_rfl) (by kernel_rfl) Tryd.underlying28 Tryd.sizeOf31 (by omega)) ?_
          refine D_held (F5.v ((fll Y Y.length).getD i F5.z)) (by kernel_rfl) (ldW ff5_len F5.z i g93 0 (0 + i * 5) (fun w hO => Rd.rdB (cap := cap72) (len := Y.length) (Rw.rd' ff5_len (ill_length _ _ _ _ _ _ _) hr70 hO (((List.sublist_append_right (([] : List B) ++ ob2 ++ ob ++ ob64) ob69).trans (List.sublist_append_left (([] : List B) ++ ob2 ++ ob ++ ob64 ++ ob69) oba))))) rfl (by kernel_rfl) rfl (by rw [ill_length]; omega) Tryd.isAgg31 Tryd.sizeOf31) ?_
          refine D_v (.slice (some ⟨g90, 0, none⟩) Y.length capq) ?_
          refine D_v (.int .i64 ((i : Nat) : Int)) ?_
          refine D_val (.pointer (some ⟨g90, 0 + i * 5, none⟩)) (by kernel_rfl) (ixS (k := .i64) g90 0 Y.length capq 5 i rfl (by kernel_rfl) (by kernel_rfl) Tryd.underlying28 Tryd.sizeOf31 (by omega)) ?_
          refine D_held (F5.v (Y.getD i F5.z)) (by kernel_rfl) (ldW ff5_len F5.z i g90 0 (0 + i * 5) (fun w hO => Rd.rdB (cap := capq) (len := Y.length) (Rw.rd' ff5_len rfl hr hO (((((List.sublist_append_right (([] : List B) ++ ob2) ob).trans (List.sublist_append_left (([] : List B) ++ ob2 ++ ob) ob64)).trans (List.sublist_append_left (([] : List B) ++ ob2 ++ ob ++ ob64) ob69)).trans (List.sublist_append_left (([] : List B) ++ ob2 ++ ob ++ ob64 ++ ob69) oba))))) rfl (by kernel_rfl) rfl (by omega) Tryd.isAgg31 Tryd.sizeOf31) ?_
          refine D_pure (v := F5.v (F5.of (((fll Y Y.length).getD i F5.z).val * (Y.getD i F5.z).val % pp))) (by kernel_rfl) (c_fmul ((fll Y Y.length).getD i F5.z) (Y.getD i F5.z) (fll_ok _ _ _) (hYs _)) (fun _ => by kernel_rfl) ?_
          refine D_pure (v := F5.v (F5.of (1 % pp))) (by kernel_rfl) (c_fint 1 (by decide)) (fun _ => by kernel_rfl) ?_
          have hC104 := c_fsame (F5.of (((fll Y Y.length).getD i F5.z).val * (Y.getD i F5.z).val % pp)) (F5.of (1 % pp)) (F5.of_ok _) (F5.of_ok _)
          rw [fll_one Y i (by omega) hz] at hC104
          refine D_pure (v := .bool true) (by kernel_rfl) hC104 (fun _ => by kernel_rfl) ?_
          refine D_v (.bool false) ?_
          refine D_v (.bool false) ?_
          refine D_v (.bool false) ?_
          refine D_nil ?_
          refine E_then ?_
          refine C_false (by kernel_rfl) ?_
          refine C_skip ?_
          refine E_then ?_
          refine C_drawn [.pure, .pure, .pure, .pure, .held, .pure, .pure, .pure, .held, .held, .new, .eff, .pure] (by kernel_rfl) (by kernel_rfl) ?_
          refine D_v (v) ?_
          refine D_v (.slice (some ⟨g90, 0, none⟩) Y.length capq) ?_
          refine D_v (.int .i64 ((i : Nat) : Int)) ?_
          refine D_val (.pointer (some ⟨g90, 0 + i * 5, none⟩)) (by kernel_rfl) (ixS (k := .i64) g90 0 Y.length capq 5 i rfl (by kernel_rfl) (by kernel_rfl) Tryd.underlying28 Tryd.sizeOf31 (by omega)) ?_
          refine D_held (F5.v (Y.getD i F5.z)) (by kernel_rfl) (ldW ff5_len F5.z i g90 0 (0 + i * 5) (fun w hO => Rd.rdB (cap := capq) (len := Y.length) (Rw.rd' ff5_len rfl hr hO (((((List.sublist_append_right (([] : List B) ++ ob2) ob).trans (List.sublist_append_left (([] : List B) ++ ob2 ++ ob) ob64)).trans (List.sublist_append_left (([] : List B) ++ ob2 ++ ob ++ ob64) ob69)).trans (List.sublist_append_left (([] : List B) ++ ob2 ++ ob ++ ob64 ++ ob69) oba))))) rfl (by kernel_rfl) rfl (by omega) Tryd.isAgg31 Tryd.sizeOf31) ?_
          refine D_v (.slice (some ⟨g90, 0, none⟩) Y.length capq) ?_
          refine D_v (.int .i64 ((i : Nat) : Int)) ?_
          refine D_val (.pointer (some ⟨g90, 0 + i * 5, none⟩)) (by kernel_rfl) (ixS (k := .i64) g90 0 Y.length capq 5 i rfl (by kernel_rfl) (by kernel_rfl) Tryd.underlying28 Tryd.sizeOf31 (by omega)) ?_
          refine D_held (F5.v (Y.getD i F5.z)) (by kernel_rfl) (ldW ff5_len F5.z i g90 0 (0 + i * 5) (fun w hO => Rd.rdB (cap := capq) (len := Y.length) (Rw.rd' ff5_len rfl hr hO (((((List.sublist_append_right (([] : List B) ++ ob2) ob).trans (List.sublist_append_left (([] : List B) ++ ob2 ++ ob) ob64)).trans (List.sublist_append_left (([] : List B) ++ ob2 ++ ob ++ ob64) ob69)).trans (List.sublist_append_left (([] : List B) ++ ob2 ++ ob ++ ob64 ++ ob69) oba))))) rfl (by kernel_rfl) rfl (by omega) Tryd.isAgg31 Tryd.sizeOf31) ?_
          refine D_pure (v := F5.v (fng (Y.getD i F5.z))) (by kernel_rfl) (c_fneg (Y.getD i F5.z) (hYs _)) (fun _ => by kernel_rfl) ?_
          refine D_fresh (fun nb0 => .slice (some ⟨nb0, 0, none⟩) 2 2) [wd ((Y.getD i F5.z).l0), wd ((Y.getD i F5.z).l1), wd ((Y.getD i F5.z).l2), wd ((Y.getD i F5.z).l3), wd ((Y.getD i F5.z).l4), wd ((fng (Y.getD i F5.z)).l0), wd ((fng (Y.getD i F5.z)).l1), wd ((fng (Y.getD i F5.z)).l2), wd ((fng (Y.getD i F5.z)).l3), wd ((fng (Y.getD i F5.z)).l4)] 31 (by kernel_rfl) (fun w _ => by kernel_rfl) ?_
          intro b105 hb105 Hb105
          refine D_app (sz := 5) (n := (2 * i) + 2) (xs := ((bal Y i).flatMap ff5) ++ [wd ((Y.getD i F5.z).l0), wd ((Y.getD i F5.z).l1), wd ((Y.getD i F5.z).l2), wd ((Y.getD i F5.z).l3), wd ((Y.getD i F5.z).l4), wd ((fng (Y.getD i F5.z)).l0), wd ((fng (Y.getD i F5.z)).l1), wd ((fng (Y.getD i F5.z)).l2), wd ((fng (Y.getD i F5.z)).l3), wd ((fng (Y.getD i F5.z)).l4)]) (fun ob' => [⟨b105, [wd ((Y.getD i F5.z).l0), wd ((Y.getD i F5.z).l1), wd ((Y.getD i F5.z).l2), wd ((Y.getD i F5.z).l3), wd ((Y.getD i F5.z).l4), wd ((fng (Y.getD i F5.z)).l0), wd ((fng (Y.getD i F5.z)).l1), wd ((fng (Y.getD i F5.z)).l2), wd ((fng (Y.getD i F5.z)).l3), wd ((fng (Y.getD i F5.z)).l4)], 31⟩] ++ ob2 ++ ob ++ ob64 ++ ob69 ++ ob') (Rw.inh (m := 2) hr2.1 (by kernel_rfl) (le_maxLen (by omega))) (by intro ob'; simp) (by kernel_rfl) (up_app (L1 := [⟨b105, [wd ((Y.getD i F5.z).l0), wd ((Y.getD i F5.z).l1), wd ((Y.getD i F5.z).l2), wd ((Y.getD i F5.z).l3), wd ((Y.getD i F5.z).l4), wd ((fng (Y.getD i F5.z)).l0), wd ((fng (Y.getD i F5.z)).l1), wd ((fng (Y.getD i F5.z)).l2), wd ((fng (Y.getD i F5.z)).l3), wd ((fng (Y.getD i F5.z)).l4)], 31⟩] ++ ob2 ++ ob ++ ob64 ++ ob69) (ob := oba) (L2 := []) (n := 2 * i) (xs := ((bal Y i).flatMap ff5)) 28 31 Tryd.t31 (.agg #[.int .u64 0, .int .u64 0, .int .u64 0, .int .u64 0, .int .u64 0]) Tryd.underlying28 (by kernel_rfl) (by kernel_rfl) (by kernel_rfl) rfl hr2 (by simp) ⟨b105, 0, none⟩ 2 2 [wd ((Y.getD i F5.z).l0), wd ((Y.getD i F5.z).l1), wd ((Y.getD i F5.z).l2), wd ((Y.getD i F5.z).l3), wd ((Y.getD i F5.z).l4), wd ((fng (Y.getD i F5.z)).l0), wd ((fng (Y.getD i F5.z)).l1), wd ((fng (Y.getD i F5.z)).l2), wd ((fng (Y.getD i F5.z)).l3), wd ((fng (Y.getD i F5.z)).l4)] (by kernel_rfl) (by kernel_rfl) (by kernel_rfl) (fun w hO j9 u9 hu => by rw [add_none, Nat.zero_add, hO.cellAt 0 (b := b105) (cs := [wd ((Y.getD i F5.z).l0), wd ((Y.getD i F5.z).l1), wd ((Y.getD i F5.z).l2), wd ((Y.getD i F5.z).l3), wd ((Y.getD i F5.z).l4), wd ((fng (Y.getD i F5.z)).l0), wd ((fng (Y.getD i F5.z)).l1), wd ((fng (Y.getD i F5.z)).l2), wd ((fng (Y.getD i F5.z)).l3), wd ((fng (Y.getD i F5.z)).l4)]) (ty := 31) (by kernel_rfl)]; exact hu) (by simp [Value.oneCell']) (by decide) (by simp only [Tryd.t31]; omega) (le_maxLen (by omega))) ?_
          intro v106 ob107 hr108
          replace hr108 : Rw 31 5 v106 ((2 * i) + 2) (((bal Y i) ++ [(Y.getD i F5.z), (fng (Y.getD i F5.z))]).flatMap ff5) ob107 := by first | exact hr108 | (rw [List.flatMap_append]; exact hr108)
          refine D_v (v106) ?_
          refine D_nil ?_
          refine E_inblock ?_
          refine E_then ?_
          refine C_region ?_
          refine S_v (.int .i64 ((i : Nat) : Int)) ?_
          refine S_val (.int .i64 ((i + 1 : Nat) : Int)) (by kernel_rfl) (fun _ _ => fv (v := .int .i64 (IntKind.i64.wrap (((i : Nat) : Int) + 1))) (vint (w64 (by omega) (by omega) (by omega))) (by kernel_rfl)) ?_
          refine S_v (.int .i64 ((i + 1 : Nat) : Int)) ?_
          refine S_nil ?_
          exact E_norm (fun w hw => ⟨i + 1, v106, ob107, ⟨by omega, by rw [bal_succ Y (by omega), show 2 * (i + 1) = 2 * i + 2 by omega]; exact hr108⟩, (by kernel_rfl), (by (try dsimp only); omega), hw.tail⟩)
      · replace hc := of_decide_eq_false hc
        obtain rfl : i = Y.length := by omega
        obtain ⟨aoa, capa, rfl⟩ := hr2.len
        refine C_exit ?_
        refine E_pass_exit ?_
        refine E_pass_exit ?_
        refine E_outblock ?_
        refine E_then ?_
        refine C_seq ?_
        refine C_region ?_
        refine S_v (.slice aoa (2 * Y.length) capa) ?_
        refine S_call (by kernel_rfl) (fun _ _ => by kernel_rfl) (fun w hO => ((c_fsum w (.slice aoa (2 * Y.length) capa) (bal Y Y.length) (bal_ok hYs _ (Nat.le_refl _)) (Rw.rd' ff5_len (bal_length Y (Nat.le_refl _)) hr2 hO ((List.sublist_append_right (([] : List B) ++ ob2 ++ ob ++ ob64 ++ ob69) oba))) (by rw [bal_length Y (Nat.le_refl _)]; omega))).mono fun _ _ ⟨he, hb⟩ => ⟨F5.v (fsm (bal Y Y.length) (bal Y Y.length).length), _, he, hO.call hb, ?_⟩)
        have hC109 := c_fzero (fsm (bal Y Y.length) (bal Y Y.length).length) (fsm_ok _ _)
        rw [bal_zero Y] at hC109
        refine S_pure (v := .bool true) (by kernel_rfl) hC109 (fun _ => by kernel_rfl) ?_
        refine S_v (.bool true) ?_
        refine S_pure (v := .agg #[.int .u64 1, .int .u64 0, .int .u64 0, .int .u64 0]) (by kernel_rfl) (c_sint 1) (fun _ => by kernel_rfl) ?_
        refine S_pure (v := .agg #[.int .u64 1, .int .u64 0, .int .u64 0, .int .u64 0]) (by kernel_rfl) (c_sint 1) (fun _ => by kernel_rfl) ?_
        have hC110 := fun (w : World) (hG : GV 0 tbS w) => c_ssame w hG 1 1 (by decide) (by decide)
        rw [show decide (1 % ll = 1 % ll) = true from rfl] at hC110
        refine S_call (by kernel_rfl) (fun _ _ => by kernel_rfl) (fun w hO => ((hC110 w (hT.own hO))).mono fun _ _ ⟨he, hb⟩ => ⟨.bool true, _, he, hO.call hb, ?_⟩)
        refine S_v (.bool true) ?_
        refine S_v (.bool true) ?_
        refine S_pure (v := .agg #[.int .u64 1, .int .u64 0, .int .u64 0, .int .u64 0]) (by kernel_rfl) (c_sint 1) (fun _ => by kernel_rfl) ?_
        have hC111 := fun (w : World) (hG : GV 0 tbS w) => c_szero w hG 1 (by decide)
        rw [show decide (1 % ll = 0) = false from rfl] at hC111
        refine S_call (by kernel_rfl) (fun _ _ => by kernel_rfl) (fun w hO => ((hC111 w (hT.own hO))).mono fun _ _ ⟨he, hb⟩ => ⟨.bool false, _, he, hO.call hb, ?_⟩)
        refine S_v (.bool true) ?_
        refine S_v (.bool true) ?_
        refine S_v (.bool true) ?_
        refine S_nil ?_
        refine E_then ?_
        refine C_ret ?_
        exact pure_ret rfl (res1 Tryd.results3 (by kernel_rfl))
end Go.Vk
