/- What functions of the program do: walks, printed by a program of my own. -/
import Derived.Test.YthmlkndmpkcjdaaFieldL
set_option linter.unusedVariables false
set_option linter.unusedSimpArgs false
namespace Go.Vk
open Go Go.RowKit Go.Proofs
theorem walk_field_dup (w0 : World) (vp vq : Value) (p q X : List Int) (hX : X = p.take 40) (hd : dup X) (hvp : Rd w0 vp 1 f7 p) (hvq : Rd w0 vq 1 f7 q) : Calls Try.prog 10 #[vp, vq] w0 fun e w' => e = .returned (.bool true) ∧ Below w0.heap.size w0 w' := by
  have hX40 : X.length ≤ 40 := by subst hX; simp; omega
  refine calls_start Try.func10 rfl ?_
  refine C_seq ?_
  refine C_region ?_
  refine S_val (.bool false) (by kernel_rfl) (fun _ _ => by kernel_rfl) ?_
  refine S_nil ?_
  refine E_then ?_
  refine C_seq ?_
  refine C_seq ?_
  refine C_region ?_
  refine S_pure (v := .bool true) (by kernel_rfl) c_alive (fun _ => by kernel_rfl) ?_
  refine S_val (.bool false) (by kernel_rfl) (fun _ _ => by kernel_rfl) ?_
  refine S_nil ?_
  refine E_then ?_
  refine C_false (by kernel_rfl) ?_
  refine C_skip ?_
  refine E_then ?_
  refine C_seq ?_
  refine C_region ?_
  refine S_val (vp) (by kernel_rfl) (fun _ _ => by kernel_rfl) ?_
  refine S_gives (mk := fun v0 => v0) (by kernel_rfl) (fun _ _ => by kernel_rfl) (fun w hO => (c_sevens' w vp p X hX (hvp.own hO))) ?_
  intro v1 ob2 hr3
  obtain ⟨ao4, cap5, rfl⟩ := hr3.len
  refine S_val (.slice ao4 X.length cap5) (by kernel_rfl) (fun _ _ => by kernel_rfl) ?_
  refine S_nil ?_
  refine E_then ?_
  refine C_seq ?_
  refine C_region ?_
  refine S_val (vq) (by kernel_rfl) (fun _ _ => by kernel_rfl) ?_
  refine S_gives (mk := fun v0 => v0) (by kernel_rfl) (fun _ _ => by kernel_rfl) (fun w hO => (c_sevens w vq q (hvq.own hO))) ?_
  intro v6 ob7 hr8
  refine S_val (v6) (by kernel_rfl) (fun _ _ => by kernel_rfl) ?_
  refine S_nil ?_
  refine E_then ?_
  refine C_seq ?_
  refine C_block ?_
  refine C_loop3 (fun (Y : List Int) (v : Value) (ob : List B) => (Y.length ≤ 60) ∧ (Rw 72 1 v Y.length (Y.flatMap f7) ob)) (fun (Y : List Int) (v : Value) (ob : List B) => fun g => ⟨#[g 0, g 1, g 2, g 3, g 4, .slice ao4 X.length cap5, v, g 7, g 8, g 9, g 10, g 11, g 12, g 13, g 14, g 15, g 16, g 17, g 18, g 19, g 20, g 21, g 22, g 23, g 24, g 25, g 26, g 27, g 28, g 29, g 30, g 31, g 32, g 33, g 34, g 35, g 36, g 37, g 38, g 39, g 40, g 41, g 42, g 43, g 44, g 45, g 46, g 47, g 48, g 49, g 50, g 51, g 52, g 53, g 54, g 55, g 56, g 57, g 58, g 59, g 60, g 61, g 62, g 63, g 64, g 65, g 66, g 67, g 68, g 69, g 70, g 71, g 72, g 73, g 74, g 75, g 76, g 77, g 78, g 79, g 80, g 81, g 82, g 83, g 84, g 85, g 86, g 87, g 88, g 89, g 90, g 91, g 92, g 93, g 94, g 95, g 96, g 97, g 98, g 99, g 100, g 101, g 102, g 103, g 104, g 105, g 106, g 107, g 108, g 109, g 110, g 111, g 112, g 113, g 114, g 115, g 116, g 117, g 118, g 119, g 120, g 121, g 122, g 123, g 124, g 125, g 126, g 127, g 128, g 129, g 130, g 131, g 132, g 133, g 134, g 135, g 136, g 137, g 138, g 139, g 140, g 141, g 142, g 143, g 144], []⟩) (fun (Y : List Int) (v : Value) (ob : List B) => [] ++ ob2 ++ ob) (fun (Y : List Int) (v : Value) (ob : List B) => X.length - Y.length) (q.take 40) v6 ob7 (by (try dsimp only); exact ⟨(by simp; omega), (by rw [List.length_take, Nat.min_comm]; exact hr8)⟩) (by kernel_rfl) (by first | (dsimp only; done) | ((try dsimp only); kernel_rfl)) ?_
  rintro Y v ob g9 ⟨hYl, hrY⟩
  obtain ⟨aoY, capY, rfl⟩ := hrY.len
  refine C_seq ?_
  refine C_seq ?_
  refine C_region ?_
  refine S_val (.slice aoY Y.length capY) (by kernel_rfl) (fun _ _ => by kernel_rfl) ?_
  refine S_val (.int .i64 ((Y.length : Nat) : Int)) (by kernel_rfl) (fun _ _ => by kernel_rfl) ?_
  refine S_val (.slice ao4 X.length cap5) (by kernel_rfl) (fun _ _ => by kernel_rfl) ?_
  refine S_val (.int .i64 ((X.length : Nat) : Int)) (by kernel_rfl) (fun _ _ => by kernel_rfl) ?_
  refine S_val (.bool (decide (((Y.length : Nat) : Int) < ((X.length : Nat) : Int)))) (by kernel_rfl) (fun _ _ => by kernel_rfl) ?_
  refine S_nil ?_
  refine E_then ?_
  refine C_if (decide (((Y.length : Nat) : Int) < ((X.length : Nat) : Int))) (by kernel_rfl) (fun hge => ?_) (fun hge => ?_)
  · replace hge := of_decide_eq_true hge
    refine C_skip ?_
    refine E_then ?_
    refine C_block ?_
    refine C_region ?_
    refine S_val (.slice aoY Y.length capY) (by kernel_rfl) (fun _ _ => by kernel_rfl) ?_
    refine S_val (.slice aoY Y.length capY) (by kernel_rfl) (fun _ _ => by kernel_rfl) ?_
    refine S_val (.int .i64 ((Y.length : Nat) : Int)) (by kernel_rfl) (fun _ _ => by kernel_rfl) ?_
    refine S_val (.agg #[.int .i64 ((Y.length : Nat) : Int)]) (by kernel_rfl) (fun _ _ => by kernel_rfl) ?_
    refine S_newv (fun nb0 => .slice (some ⟨nb0, 0, none⟩) 1 1) [.int .i64 ((Y.length : Nat) : Int)] 72 (by kernel_rfl) (fun w _ => by kernel_rfl) ?_
    intro b10 hb10 Hb10
    refine S_app (sz := 1) (n := Y.length + 1) (xs := (Y.flatMap f7) ++ [.int .i64 ((Y.length : Nat) : Int)]) (fun ob' => [⟨b10, [.int .i64 ((Y.length : Nat) : Int)], 72⟩] ++ ob2 ++ ob') (by intro ob'; simp) (by kernel_rfl) (up_app (L1 := [⟨b10, [.int .i64 ((Y.length : Nat) : Int)], 72⟩] ++ ob2) (ob := ob) (L2 := []) (n := Y.length) (xs := (Y.flatMap f7)) 69 72 Try.t72 (.agg #[.int .i64 0]) Try.underlying69 (by kernel_rfl) (by kernel_rfl) (by kernel_rfl) rfl hrY (by simp) ⟨b10, 0, none⟩ 1 1 [.int .i64 ((Y.length : Nat) : Int)] (by kernel_rfl) (by kernel_rfl) (by kernel_rfl) (fun w hO j9 u9 hu => by rw [add_none, Nat.zero_add, hO.cellAt 0 (b := b10) (cs := [.int .i64 ((Y.length : Nat) : Int)]) (ty := 72) (by kernel_rfl)]; exact hu) (by simp [Value.oneCell']) (by decide) (by simp only [Try.t72]; omega) (le_maxLen (by omega))) ?_
    intro v11 ob12 hr13
    replace hr13 : Rw 72 1 v11 (Y.length + 1) ((Y ++ [((Y.length : Nat) : Int)]).flatMap f7) ob12 := by first | exact hr13 | (rw [List.flatMap_append]; exact hr13)
    refine S_val (v11) (by kernel_rfl) (fun _ _ => by kernel_rfl) ?_
    refine S_nil ?_
    refine E_inblock ?_
    exact E_norm (fun w hw => ⟨Y ++ [((Y.length : Nat) : Int)], v11, ob12, ⟨(by simp; omega), (by rw [List.length_append]; exact hr13)⟩, (by kernel_rfl), (by (try dsimp only); (simp only [List.length_append, List.length_cons, List.length_nil]; omega)), hw.tail⟩)
  · replace hge := of_decide_eq_false hge
    replace hge : X.length ≤ Y.length := by omega
    refine C_exit ?_
    refine E_pass_exit ?_
    refine E_pass_exit ?_
    refine E_outblock ?_
    refine E_then ?_
    refine C_seq ?_
    refine C_region ?_
    refine S_val (.slice aoY Y.length capY) (by kernel_rfl) (fun _ _ => by kernel_rfl) ?_
    refine S_val (.slice ao4 X.length cap5) (by kernel_rfl) (fun _ _ => by kernel_rfl) ?_
    refine S_val (.int .i64 ((X.length : Nat) : Int)) (by kernel_rfl) (fun _ _ => by kernel_rfl) ?_
    refine S_val (.slice aoY X.length capY) (by kernel_rfl) (fun w _ => (sl0 (k := .i64) (h := X.length) Try.underlying69 Try.sizeOf72 rfl (by kernel_rfl) (by kernel_rfl) (by omega) (Rw.lecap hrY)) w) ?_
    refine S_val (.slice aoY X.length capY) (by kernel_rfl) (fun _ _ => by kernel_rfl) ?_
    refine S_nil ?_
    refine E_then ?_
    refine C_seq ?_
    refine C_region ?_
    refine S_val (.bool false) (by kernel_rfl) (fun _ _ => by kernel_rfl) ?_
    refine S_nil ?_
    refine E_then ?_
    refine C_seq ?_
    refine C_seq ?_
    refine C_region ?_
    refine S_val (.int .i64 0) (by kernel_rfl) (fun _ _ => by kernel_rfl) ?_
    refine S_nil ?_
    refine E_then ?_
    refine C_block ?_
    refine C_loop2 (fun (i : Nat) (z : Bool) => (i ≤ X.length) ∧ (z = true ↔ tw X i 0)) (fun (i : Nat) (z : Bool) => fun g => ⟨#[g 0, g 1, g 2, g 3, g 4, .slice ao4 X.length cap5, .slice aoY X.length capY, .bool z, .int .i64 ((i : Nat) : Int), g 9, g 10, g 11, g 12, g 13, g 14, g 15, g 16, g 17, g 18, g 19, g 20, g 21, g 22, g 23, g 24, g 25, g 26, g 27, g 28, g 29, g 30, g 31, g 32, g 33, g 34, g 35, g 36, g 37, g 38, g 39, g 40, g 41, g 42, g 43, g 44, g 45, g 46, g 47, g 48, g 49, g 50, g 51, g 52, g 53, g 54, g 55, g 56, g 57, g 58, g 59, g 60, g 61, g 62, g 63, g 64, g 65, g 66, g 67, g 68, g 69, g 70, g 71, g 72, g 73, g 74, g 75, g 76, g 77, g 78, g 79, g 80, g 81, g 82, g 83, g 84, g 85, g 86, g 87, g 88, g 89, g 90, g 91, g 92, g 93, g 94, g 95, g 96, g 97, g 98, g 99, g 100, g 101, g 102, g 103, g 104, g 105, g 106, g 107, g 108, g 109, g 110, g 111, g 112, g 113, g 114, g 115, g 116, g 117, g 118, g 119, g 120, g 121, g 122, g 123, g 124, g 125, g 126, g 127, g 128, g 129, g 130, g 131, g 132, g 133, g 134, g 135, g 136, g 137, g 138, g 139, g 140, g 141, g 142, g 143, g 144], []⟩) (fun (i : Nat) (z : Bool) => [] ++ ob2 ++ ob) (fun (i : Nat) (z : Bool) => X.length - i) 0 false (by (try dsimp only); exact ⟨Nat.zero_le _, tw0 X⟩) (by kernel_rfl) (by first | (dsimp only; done) | ((try dsimp only); kernel_rfl)) ?_
    rintro i z g14 ⟨hi, hz⟩
    refine C_seq ?_
    refine C_seq ?_
    refine C_region ?_
    refine S_val (.int .i64 ((i : Nat) : Int)) (by kernel_rfl) (fun _ _ => by kernel_rfl) ?_
    refine S_val (.slice ao4 X.length cap5) (by kernel_rfl) (fun _ _ => by kernel_rfl) ?_
    refine S_val (.int .i64 ((X.length : Nat) : Int)) (by kernel_rfl) (fun _ _ => by kernel_rfl) ?_
    refine S_val (.bool (decide (((i : Nat) : Int) < ((X.length : Nat) : Int)))) (by kernel_rfl) (fun _ _ => by kernel_rfl) ?_
    refine S_nil ?_
    refine E_then ?_
    refine C_if (decide (((i : Nat) : Int) < ((X.length : Nat) : Int))) (by kernel_rfl) (fun hc => ?_) (fun hc => ?_)
    · replace hc := of_decide_eq_true hc
      obtain ⟨g15, cap16, sp17, eg15, _⟩ := Rw.op' rfl hr3 (by omega)
      cases eg15
      refine C_skip ?_
      refine E_then ?_
      refine C_seq ?_
      refine C_block ?_
      refine C_seq ?_
      refine C_region ?_
      refine S_val (.int .i64 0) (by kernel_rfl) (fun _ _ => by kernel_rfl) ?_
      refine S_nil ?_
      refine E_then ?_
      refine C_block ?_
      refine C_loop2 (fun (j : Nat) (y : Bool) => (j ≤ i) ∧ (y = true ↔ tw X i j)) (fun (j : Nat) (y : Bool) => fun g => ⟨#[g 0, g 1, g 2, g 3, g 4, .slice (some ⟨g15, 0, none⟩) X.length cap5, .slice aoY X.length capY, .bool y, .int .i64 ((i : Nat) : Int), .int .i64 ((j : Nat) : Int), g 10, g 11, g 12, g 13, g 14, g 15, g 16, g 17, g 18, g 19, g 20, g 21, g 22, g 23, g 24, g 25, g 26, g 27, g 28, g 29, g 30, g 31, g 32, g 33, g 34, g 35, g 36, g 37, g 38, g 39, g 40, g 41, g 42, g 43, g 44, g 45, g 46, g 47, g 48, g 49, g 50, g 51, g 52, g 53, g 54, g 55, g 56, g 57, g 58, g 59, g 60, g 61, g 62, g 63, g 64, g 65, g 66, g 67, g 68, g 69, g 70, g 71, g 72, g 73, g 74, g 75, g 76, g 77, g 78, g 79, g 80, g 81, g 82, g 83, g 84, g 85, g 86, g 87, g 88, g 89, g 90, g 91, g 92, g 93, g 94, g 95, g 96, g 97, g 98, g 99, g 100, g 101, g 102, g 103, g 104, g 105, g 106, g 107, g 108, g 109, g 110, g 111, g 112, g 113, g 114, g 115, g 116, g 117, g 118, g 119, g 120, g 121, g 122, g 123, g 124, g 125, g 126, g 127, g 128, g 129, g 130, g 131, g 132, g 133, g 134, g 135, g 136, g 137, g 138, g 139, g 140, g 141, g 142, g 143, g 144], []⟩) (fun (j : Nat) (y : Bool) => [] ++ ob2 ++ ob) (fun (j : Nat) (y : Bool) => i - j) 0 z (by (try dsimp only); exact ⟨Nat.zero_le _, hz⟩) (by kernel_rfl) (by first | (dsimp only; done) | ((try dsimp only); kernel_rfl)) ?_
      rintro j y g18 ⟨hj, hy⟩
      refine C_seq ?_
      refine C_seq ?_
      refine C_region ?_
      refine S_val (.int .i64 ((j : Nat) : Int)) (by kernel_rfl) (fun _ _ => by kernel_rfl) ?_
      refine S_val (.int .i64 ((i : Nat) : Int)) (by kernel_rfl) (fun _ _ => by kernel_rfl) ?_
      refine S_val (.bool (decide (((j : Nat) : Int) < ((i : Nat) : Int)))) (by kernel_rfl) (fun _ _ => by kernel_rfl) ?_
      refine S_nil ?_
      refine E_then ?_
      refine C_if (decide (((j : Nat) : Int) < ((i : Nat) : Int))) (by kernel_rfl) (fun hc2 => ?_) (fun hc2 => ?_)
      · replace hc2 := of_decide_eq_true hc2
        refine C_skip ?_
        refine E_then ?_
        refine C_seq ?_
        refine C_block ?_
        by_cases hyy : y = true
        · subst hyy
          refine C_drawn [.pure, .pure, .pure, .pure, .pure, .pure, .pure, .pure, .pure, .pure, .pure, .pure, .pure, .pure, .pure] (by kernel_rfl) (by kernel_rfl) ?_
          refine D_val (.bool true) (by kernel_rfl) (fun _ => by kernel_rfl) ?_
          refine D_val (.bool true) (by kernel_rfl) (fun _ => by kernel_rfl) ?_
          refine D_not (by kernel_rfl) ?_
          refine D_not (by kernel_rfl) ?_
          refine D_not (by kernel_rfl) ?_
          refine D_not (by kernel_rfl) ?_
          refine D_not (by kernel_rfl) ?_
          refine D_not (by kernel_rfl) ?_
          refine D_not (by kernel_rfl) ?_
          refine D_not (by kernel_rfl) ?_
          refine D_not (by kernel_rfl) ?_
          refine D_not (by kernel_rfl) ?_
          refine D_not (by kernel_rfl) ?_
          refine D_val (.bool true) (by kernel_rfl) (fun _ => by kernel_rfl) ?_
          refine D_val (.bool true) (by kernel_rfl) (fun _ => by kernel_rfl) ?_
          refine D_nil ?_
          refine E_inblock ?_
          refine E_then ?_
          refine C_region ?_
          refine S_val (.int .i64 ((j : Nat) : Int)) (by kernel_rfl) (fun _ _ => by kernel_rfl) ?_
          refine S_val (.int .i64 ((j + 1 : Nat) : Int)) (by kernel_rfl) (fun _ _ => fv (v := .int .i64 (IntKind.i64.wrap (((j : Nat) : Int) + 1))) (vint (w64 (by omega) (by omega) (by omega))) (by kernel_rfl)) ?_
          refine S_val (.int .i64 ((j + 1 : Nat) : Int)) (by kernel_rfl) (fun _ _ => by kernel_rfl) ?_
          refine S_nil ?_
          exact E_norm (fun w hw => ⟨j + 1, true, ⟨by omega, twt hy⟩, (by kernel_rfl), (by (try dsimp only); omega), hw⟩)
        · have hyy : y = false := by simpa using hyy
          subst hyy
          refine C_drawn [.pure, .pure, .pure, .pure, .pure, .held, .held, .pure, .pure, .pure, .held, .held, .pure, .pure, .pure] (by kernel_rfl) (by kernel_rfl) ?_
          refine D_val (.bool false) (by kernel_rfl) (fun _ => by kernel_rfl) ?_
          refine D_val (.bool false) (by kernel_rfl) (fun _ => by kernel_rfl) ?_
          refine D_val (.slice (some ⟨g15, 0, none⟩) X.length cap5) (by kernel_rfl) (fun _ => by kernel_rfl) ?_
          refine D_val (.int .i64 ((i : Nat) : Int)) (by kernel_rfl) (fun _ => by kernel_rfl) ?_
          refine D_val (.pointer (some ⟨g15, 0 + i * 1, none⟩)) (by kernel_rfl) (ixS (k := .i64) g15 0 X.length cap5 1 i rfl (by kernel_rfl) (by kernel_rfl) Try.underlying69 Try.sizeOf72 (by omega)) ?_
          refine D_held (.agg #[.int .i64 (X.getD i 0)]) (by kernel_rfl) (ldW f7_len 0 i g15 0 (0 + i * 1) (fun w hO => Rd.rdB (cap := cap5) (len := X.length) (Rw.rd' f7_len rfl hr3 hO (((List.sublist_append_right (([] : List B)) ob2).trans (List.sublist_append_left (([] : List B) ++ ob2) ob))))) rfl (by kernel_rfl) rfl (by omega) Try.isAgg72 Try.sizeOf72) ?_
          refine D_pure (v := .int .i64 ((X.getD i 0) % 7)) (by kernel_rfl) (c_r (X.getD i 0)) (fun _ => by kernel_rfl) ?_
          refine D_val (.slice (some ⟨g15, 0, none⟩) X.length cap5) (by kernel_rfl) (fun _ => by kernel_rfl) ?_
          refine D_val (.int .i64 ((j : Nat) : Int)) (by kernel_rfl) (fun _ => by kernel_rfl) ?_
          refine D_val (.pointer (some ⟨g15, 0 + j * 1, none⟩)) (by kernel_rfl) (ixS (k := .i64) g15 0 X.length cap5 1 j rfl (by kernel_rfl) (by kernel_rfl) Try.underlying69 Try.sizeOf72 (by omega)) ?_
          refine D_held (.agg #[.int .i64 (X.getD j 0)]) (by kernel_rfl) (ldW f7_len 0 j g15 0 (0 + j * 1) (fun w hO => Rd.rdB (cap := cap5) (len := X.length) (Rw.rd' f7_len rfl hr3 hO (((List.sublist_append_right (([] : List B)) ob2).trans (List.sublist_append_left (([] : List B) ++ ob2) ob))))) rfl (by kernel_rfl) rfl (by omega) Try.isAgg72 Try.sizeOf72) ?_
          refine D_pure (v := .int .i64 ((X.getD j 0) % 7)) (by kernel_rfl) (c_r (X.getD j 0)) (fun _ => by kernel_rfl) ?_
          refine D_val (.bool (((X.getD i 0) % 7) == ((X.getD j 0) % 7))) (by kernel_rfl) (fun _ => by kernel_rfl) ?_
          refine D_val (.bool (((X.getD i 0) % 7) == ((X.getD j 0) % 7))) (by kernel_rfl) (fun _ => by kernel_rfl) ?_
          refine D_val (.bool (((X.getD i 0) % 7) == ((X.getD j 0) % 7))) (by kernel_rfl) (fun _ => by kernel_rfl) ?_
          refine D_nil ?_
          refine E_inblock ?_
          refine E_then ?_
          refine C_region ?_
          refine S_val (.int .i64 ((j : Nat) : Int)) (by kernel_rfl) (fun _ _ => by kernel_rfl) ?_
          refine S_val (.int .i64 ((j + 1 : Nat) : Int)) (by kernel_rfl) (fun _ _ => fv (v := .int .i64 (IntKind.i64.wrap (((j : Nat) : Int) + 1))) (vint (w64 (by omega) (by omega) (by omega))) (by kernel_rfl)) ?_
          refine S_val (.int .i64 ((j + 1 : Nat) : Int)) (by kernel_rfl) (fun _ _ => by kernel_rfl) ?_
          refine S_nil ?_
          exact E_norm (fun w hw => ⟨j + 1, ((X.getD i 0) % 7) == ((X.getD j 0) % 7), ⟨by omega, twf hy⟩, (by kernel_rfl), (by (try dsimp only); omega), hw⟩)
      · replace hc2 := of_decide_eq_false hc2
        obtain rfl : i = j := by omega
        refine C_exit ?_
        refine E_pass_exit ?_
        refine E_pass_exit ?_
        refine E_outblock ?_
        refine E_inblock ?_
        refine E_then ?_
        refine C_region ?_
        refine S_val (.int .i64 ((i : Nat) : Int)) (by kernel_rfl) (fun _ _ => by kernel_rfl) ?_
        refine S_val (.int .i64 ((i + 1 : Nat) : Int)) (by kernel_rfl) (fun _ _ => fv (v := .int .i64 (IntKind.i64.wrap (((i : Nat) : Int) + 1))) (vint (w64 (by omega) (by omega) (by omega))) (by kernel_rfl)) ?_
        refine S_val (.int .i64 ((i + 1 : Nat) : Int)) (by kernel_rfl) (fun _ _ => by kernel_rfl) ?_
        refine S_nil ?_
        exact E_norm (fun w hw => ⟨i + 1, y, ⟨by omega, tws hy⟩, (by kernel_rfl), (by (try dsimp only); omega), hw⟩)
    · replace hc := of_decide_eq_false hc
      obtain rfl : i = X.length := by omega
      refine C_exit ?_
      refine E_pass_exit ?_
      refine E_pass_exit ?_
      refine E_outblock ?_
      refine E_then ?_
      refine C_seq ?_
      refine C_region ?_
      refine S_val (.slice ao4 X.length cap5) (by kernel_rfl) (fun _ _ => by kernel_rfl) ?_
      refine S_val (.slice aoY X.length capY) (by kernel_rfl) (fun _ _ => by kernel_rfl) ?_
      refine S_call (by kernel_rfl) (fun _ _ => by kernel_rfl) (fun w hO => ((c_interp_twice w (.slice ao4 X.length cap5) (.slice aoY X.length capY) X (Y.take X.length) (Rw.rd' f7_len rfl hr3 hO (((List.sublist_append_right (([] : List B)) ob2).trans (List.sublist_append_left (([] : List B) ++ ob2) ob)))) (take_rd (Rw.rd' f7_len rfl hrY hO ((List.sublist_append_right (([] : List B) ++ ob2) ob))) hge) (by simp; omega) (by omega) hd)).mono fun _ _ ⟨he, hb⟩ => ⟨.tuple #[.slice none 0 0, .int .i64 60], _, he, hO.call hb, ?_⟩)
      refine S_val (.tuple #[.slice none 0 0, .int .i64 60]) (by kernel_rfl) (fun _ _ => by kernel_rfl) ?_
      refine S_val (.slice none 0 0) (by kernel_rfl) (fun _ _ => by kernel_rfl) ?_
      refine S_val (.int .i64 60) (by kernel_rfl) (fun _ _ => by kernel_rfl) ?_
      refine S_val (.slice none 0 0) (by kernel_rfl) (fun _ _ => by kernel_rfl) ?_
      refine S_val (.int .i64 60) (by kernel_rfl) (fun _ _ => by kernel_rfl) ?_
      refine S_nil ?_
      refine E_then ?_
      refine C_seq ?_
      refine C_seq ?_
      refine C_region ?_
      refine S_val (.bool z) (by kernel_rfl) (fun _ _ => by kernel_rfl) ?_
      refine S_nil ?_
      refine E_then ?_
      refine C_trueb (t := z) (by kernel_rfl) (hz.2 ((dup_tw X).1 hd)) ?_
      refine C_seq ?_
      refine C_region ?_
      refine S_val (.int .i64 60) (by kernel_rfl) (fun _ _ => by kernel_rfl) ?_
      refine S_val (.bool true) (by kernel_rfl) (fun _ _ => by kernel_rfl) ?_
      refine S_val (.bool true) (by kernel_rfl) (fun _ _ => by kernel_rfl) ?_
      refine S_val (.slice none 0 0) (by kernel_rfl) (fun _ _ => by kernel_rfl) ?_
      refine S_val (.int .i64 0) (by kernel_rfl) (fun _ _ => by kernel_rfl) ?_
      refine S_val (.bool true) (by kernel_rfl) (fun _ _ => by kernel_rfl) ?_
      refine S_val (.bool true) (by kernel_rfl) (fun _ _ => by kernel_rfl) ?_
      refine S_val (.bool true) (by kernel_rfl) (fun _ _ => by kernel_rfl) ?_
      refine S_nil ?_
      refine E_then ?_
      refine C_ret ?_
      refine E_pass_ret ?_
      exact pure_ret rfl (res1 Try.results10 (by kernel_rfl))
theorem walk_field_nil (w0 : World) (vp vq : Value) (p q X : List Int) (hX : X = p.take 40) (h0 : X.length = 0) (hnd : ¬ dup X) (hvp : Rd w0 vp 1 f7 p) (hvq : Rd w0 vq 1 f7 q) : Calls Try.prog 10 #[vp, vq] w0 fun e w' => e = .returned (.bool true) ∧ Below w0.heap.size w0 w' := by
  have hX40 : X.length ≤ 40 := by subst hX; simp; omega
  refine calls_start Try.func10 rfl ?_
  refine C_seq ?_
  refine C_region ?_
  refine S_val (.bool false) (by kernel_rfl) (fun _ _ => by kernel_rfl) ?_
  refine S_nil ?_
  refine E_then ?_
  refine C_seq ?_
  refine C_seq ?_
  refine C_region ?_
  refine S_pure (v := .bool true) (by kernel_rfl) c_alive (fun _ => by kernel_rfl) ?_
  refine S_val (.bool false) (by kernel_rfl) (fun _ _ => by kernel_rfl) ?_
  refine S_nil ?_
  refine E_then ?_
  refine C_false (by kernel_rfl) ?_
  refine C_skip ?_
  refine E_then ?_
  refine C_seq ?_
  refine C_region ?_
  refine S_val (vp) (by kernel_rfl) (fun _ _ => by kernel_rfl) ?_
  refine S_gives (mk := fun v0 => v0) (by kernel_rfl) (fun _ _ => by kernel_rfl) (fun w hO => (c_sevens' w vp p X hX (hvp.own hO))) ?_
  intro v1 ob2 hr3
  obtain ⟨ao4, cap5, rfl⟩ := hr3.len
  refine S_val (.slice ao4 X.length cap5) (by kernel_rfl) (fun _ _ => by kernel_rfl) ?_
  refine S_nil ?_
  refine E_then ?_
  refine C_seq ?_
  refine C_region ?_
  refine S_val (vq) (by kernel_rfl) (fun _ _ => by kernel_rfl) ?_
  refine S_gives (mk := fun v0 => v0) (by kernel_rfl) (fun _ _ => by kernel_rfl) (fun w hO => (c_sevens w vq q (hvq.own hO))) ?_
  intro v6 ob7 hr8
  refine S_val (v6) (by kernel_rfl) (fun _ _ => by kernel_rfl) ?_
  refine S_nil ?_
  refine E_then ?_
  refine C_seq ?_
  refine C_block ?_
  refine C_loop3 (fun (Y : List Int) (v : Value) (ob : List B) => (Y.length ≤ 60) ∧ (Rw 72 1 v Y.length (Y.flatMap f7) ob)) (fun (Y : List Int) (v : Value) (ob : List B) => fun g => ⟨#[g 0, g 1, g 2, g 3, g 4, .slice ao4 X.length cap5, v, g 7, g 8, g 9, g 10, g 11, g 12, g 13, g 14, g 15, g 16, g 17, g 18, g 19, g 20, g 21, g 22, g 23, g 24, g 25, g 26, g 27, g 28, g 29, g 30, g 31, g 32, g 33, g 34, g 35, g 36, g 37, g 38, g 39, g 40, g 41, g 42, g 43, g 44, g 45, g 46, g 47, g 48, g 49, g 50, g 51, g 52, g 53, g 54, g 55, g 56, g 57, g 58, g 59, g 60, g 61, g 62, g 63, g 64, g 65, g 66, g 67, g 68, g 69, g 70, g 71, g 72, g 73, g 74, g 75, g 76, g 77, g 78, g 79, g 80, g 81, g 82, g 83, g 84, g 85, g 86, g 87, g 88, g 89, g 90, g 91, g 92, g 93, g 94, g 95, g 96, g 97, g 98, g 99, g 100, g 101, g 102, g 103, g 104, g 105, g 106, g 107, g 108, g 109, g 110, g 111, g 112, g 113, g 114, g 115, g 116, g 117, g 118, g 119, g 120, g 121, g 122, g 123, g 124, g 125, g 126, g 127, g 128, g 129, g 130, g 131, g 132, g 133, g 134, g 135, g 136, g 137, g 138, g 139, g 140, g 141, g 142, g 143, g 144], []⟩) (fun (Y : List Int) (v : Value) (ob : List B) => [] ++ ob2 ++ ob) (fun (Y : List Int) (v : Value) (ob : List B) => X.length - Y.length) (q.take 40) v6 ob7 (by (try dsimp only); exact ⟨(by simp; omega), (by rw [List.length_take, Nat.min_comm]; exact hr8)⟩) (by kernel_rfl) (by first | (dsimp only; done) | ((try dsimp only); kernel_rfl)) ?_
  rintro Y v ob g9 ⟨hYl, hrY⟩
  obtain ⟨aoY, capY, rfl⟩ := hrY.len
  refine C_seq ?_
  refine C_seq ?_
  refine C_region ?_
  refine S_val (.slice aoY Y.length capY) (by kernel_rfl) (fun _ _ => by kernel_rfl) ?_
  refine S_val (.int .i64 ((Y.length : Nat) : Int)) (by kernel_rfl) (fun _ _ => by kernel_rfl) ?_
  refine S_val (.slice ao4 X.length cap5) (by kernel_rfl) (fun _ _ => by kernel_rfl) ?_
  refine S_val (.int .i64 ((X.length : Nat) : Int)) (by kernel_rfl) (fun _ _ => by kernel_rfl) ?_
  refine S_val (.bool (decide (((Y.length : Nat) : Int) < ((X.length : Nat) : Int)))) (by kernel_rfl) (fun _ _ => by kernel_rfl) ?_
  refine S_nil ?_
  refine E_then ?_
  refine C_if (decide (((Y.length : Nat) : Int) < ((X.length : Nat) : Int))) (by kernel_rfl) (fun hge => ?_) (fun hge => ?_)
  · replace hge := of_decide_eq_true hge
    refine C_skip ?_
    refine E_then ?_
    refine C_block ?_
    refine C_region ?_
    refine S_val (.slice aoY Y.length capY) (by kernel_rfl) (fun _ _ => by kernel_rfl) ?_
    refine S_val (.slice aoY Y.length capY) (by kernel_rfl) (fun _ _ => by kernel_rfl) ?_
    refine S_val (.int .i64 ((Y.length : Nat) : Int)) (by kernel_rfl) (fun _ _ => by kernel_rfl) ?_
    refine S_val (.agg #[.int .i64 ((Y.length : Nat) : Int)]) (by kernel_rfl) (fun _ _ => by kernel_rfl) ?_
    refine S_newv (fun nb0 => .slice (some ⟨nb0, 0, none⟩) 1 1) [.int .i64 ((Y.length : Nat) : Int)] 72 (by kernel_rfl) (fun w _ => by kernel_rfl) ?_
    intro b10 hb10 Hb10
    refine S_app (sz := 1) (n := Y.length + 1) (xs := (Y.flatMap f7) ++ [.int .i64 ((Y.length : Nat) : Int)]) (fun ob' => [⟨b10, [.int .i64 ((Y.length : Nat) : Int)], 72⟩] ++ ob2 ++ ob') (by intro ob'; simp) (by kernel_rfl) (up_app (L1 := [⟨b10, [.int .i64 ((Y.length : Nat) : Int)], 72⟩] ++ ob2) (ob := ob) (L2 := []) (n := Y.length) (xs := (Y.flatMap f7)) 69 72 Try.t72 (.agg #[.int .i64 0]) Try.underlying69 (by kernel_rfl) (by kernel_rfl) (by kernel_rfl) rfl hrY (by simp) ⟨b10, 0, none⟩ 1 1 [.int .i64 ((Y.length : Nat) : Int)] (by kernel_rfl) (by kernel_rfl) (by kernel_rfl) (fun w hO j9 u9 hu => by rw [add_none, Nat.zero_add, hO.cellAt 0 (b := b10) (cs := [.int .i64 ((Y.length : Nat) : Int)]) (ty := 72) (by kernel_rfl)]; exact hu) (by simp [Value.oneCell']) (by decide) (by simp only [Try.t72]; omega) (le_maxLen (by omega))) ?_
    intro v11 ob12 hr13
    replace hr13 : Rw 72 1 v11 (Y.length + 1) ((Y ++ [((Y.length : Nat) : Int)]).flatMap f7) ob12 := by first | exact hr13 | (rw [List.flatMap_append]; exact hr13)
    refine S_val (v11) (by kernel_rfl) (fun _ _ => by kernel_rfl) ?_
    refine S_nil ?_
    refine E_inblock ?_
    exact E_norm (fun w hw => ⟨Y ++ [((Y.length : Nat) : Int)], v11, ob12, ⟨(by simp; omega), (by rw [List.length_append]; exact hr13)⟩, (by kernel_rfl), (by (try dsimp only); (simp only [List.length_append, List.length_cons, List.length_nil]; omega)), hw.tail⟩)
  · replace hge := of_decide_eq_false hge
    replace hge : X.length ≤ Y.length := by omega
    refine C_exit ?_
    refine E_pass_exit ?_
    refine E_pass_exit ?_
    refine E_outblock ?_
    refine E_then ?_
    refine C_seq ?_
    refine C_region ?_
    refine S_val (.slice aoY Y.length capY) (by kernel_rfl) (fun _ _ => by kernel_rfl) ?_
    refine S_val (.slice ao4 X.length cap5) (by kernel_rfl) (fun _ _ => by kernel_rfl) ?_
    refine S_val (.int .i64 ((X.length : Nat) : Int)) (by kernel_rfl) (fun _ _ => by kernel_rfl) ?_
    refine S_val (.slice aoY X.length capY) (by kernel_rfl) (fun w _ => (sl0 (k := .i64) (h := X.length) Try.underlying69 Try.sizeOf72 rfl (by kernel_rfl) (by kernel_rfl) (by omega) (Rw.lecap hrY)) w) ?_
    refine S_val (.slice aoY X.length capY) (by kernel_rfl) (fun _ _ => by kernel_rfl) ?_
    refine S_nil ?_
    refine E_then ?_
    refine C_seq ?_
    refine C_region ?_
    refine S_val (.bool false) (by kernel_rfl) (fun _ _ => by kernel_rfl) ?_
    refine S_nil ?_
    refine E_then ?_
    refine C_seq ?_
    refine C_seq ?_
    refine C_region ?_
    refine S_val (.int .i64 0) (by kernel_rfl) (fun _ _ => by kernel_rfl) ?_
    refine S_nil ?_
    refine E_then ?_
    refine C_block ?_
    refine C_loop2 (fun (i : Nat) (z : Bool) => (i ≤ X.length) ∧ (z = true ↔ tw X i 0)) (fun (i : Nat) (z : Bool) => fun g => ⟨#[g 0, g 1, g 2, g 3, g 4, .slice ao4 X.length cap5, .slice aoY X.length capY, .bool z, .int .i64 ((i : Nat) : Int), g 9, g 10, g 11, g 12, g 13, g 14, g 15, g 16, g 17, g 18, g 19, g 20, g 21, g 22, g 23, g 24, g 25, g 26, g 27, g 28, g 29, g 30, g 31, g 32, g 33, g 34, g 35, g 36, g 37, g 38, g 39, g 40, g 41, g 42, g 43, g 44, g 45, g 46, g 47, g 48, g 49, g 50, g 51, g 52, g 53, g 54, g 55, g 56, g 57, g 58, g 59, g 60, g 61, g 62, g 63, g 64, g 65, g 66, g 67, g 68, g 69, g 70, g 71, g 72, g 73, g 74, g 75, g 76, g 77, g 78, g 79, g 80, g 81, g 82, g 83, g 84, g 85, g 86, g 87, g 88, g 89, g 90, g 91, g 92, g 93, g 94, g 95, g 96, g 97, g 98, g 99, g 100, g 101, g 102, g 103, g 104, g 105, g 106, g 107, g 108, g 109, g 110, g 111, g 112, g 113, g 114, g 115, g 116, g 117, g 118, g 119, g 120, g 121, g 122, g 123, g 124, g 125, g 126, g 127, g 128, g 129, g 130, g 131, g 132, g 133, g 134, g 135, g 136, g 137, g 138, g 139, g 140, g 141, g 142, g 143, g 144], []⟩) (fun (i : Nat) (z : Bool) => [] ++ ob2 ++ ob) (fun (i : Nat) (z : Bool) => X.length - i) 0 false (by (try dsimp only); exact ⟨Nat.zero_le _, tw0 X⟩) (by kernel_rfl) (by first | (dsimp only; done) | ((try dsimp only); kernel_rfl)) ?_
    rintro i z g14 ⟨hi, hz⟩
    refine C_seq ?_
    refine C_seq ?_
    refine C_region ?_
    refine S_val (.int .i64 ((i : Nat) : Int)) (by kernel_rfl) (fun _ _ => by kernel_rfl) ?_
    refine S_val (.slice ao4 X.length cap5) (by kernel_rfl) (fun _ _ => by kernel_rfl) ?_
    refine S_val (.int .i64 ((X.length : Nat) : Int)) (by kernel_rfl) (fun _ _ => by kernel_rfl) ?_
    refine S_val (.bool (decide (((i : Nat) : Int) < ((X.length : Nat) : Int)))) (by kernel_rfl) (fun _ _ => by kernel_rfl) ?_
    refine S_nil ?_
    refine E_then ?_
    refine C_if (decide (((i : Nat) : Int) < ((X.length : Nat) : Int))) (by kernel_rfl) (fun hc => ?_) (fun hc => ?_)
    · replace hc := of_decide_eq_true hc
      obtain ⟨g15, cap16, sp17, eg15, _⟩ := Rw.op' rfl hr3 (by omega)
      cases eg15
      refine C_skip ?_
      refine E_then ?_
      refine C_seq ?_
      refine C_block ?_
      refine C_seq ?_
      refine C_region ?_
      refine S_val (.int .i64 0) (by kernel_rfl) (fun _ _ => by kernel_rfl) ?_
      refine S_nil ?_
      refine E_then ?_
      refine C_block ?_
      refine C_loop2 (fun (j : Nat) (y : Bool) => (j ≤ i) ∧ (y = true ↔ tw X i j)) (fun (j : Nat) (y : Bool) => fun g => ⟨#[g 0, g 1, g 2, g 3, g 4, .slice (some ⟨g15, 0, none⟩) X.length cap5, .slice aoY X.length capY, .bool y, .int .i64 ((i : Nat) : Int), .int .i64 ((j : Nat) : Int), g 10, g 11, g 12, g 13, g 14, g 15, g 16, g 17, g 18, g 19, g 20, g 21, g 22, g 23, g 24, g 25, g 26, g 27, g 28, g 29, g 30, g 31, g 32, g 33, g 34, g 35, g 36, g 37, g 38, g 39, g 40, g 41, g 42, g 43, g 44, g 45, g 46, g 47, g 48, g 49, g 50, g 51, g 52, g 53, g 54, g 55, g 56, g 57, g 58, g 59, g 60, g 61, g 62, g 63, g 64, g 65, g 66, g 67, g 68, g 69, g 70, g 71, g 72, g 73, g 74, g 75, g 76, g 77, g 78, g 79, g 80, g 81, g 82, g 83, g 84, g 85, g 86, g 87, g 88, g 89, g 90, g 91, g 92, g 93, g 94, g 95, g 96, g 97, g 98, g 99, g 100, g 101, g 102, g 103, g 104, g 105, g 106, g 107, g 108, g 109, g 110, g 111, g 112, g 113, g 114, g 115, g 116, g 117, g 118, g 119, g 120, g 121, g 122, g 123, g 124, g 125, g 126, g 127, g 128, g 129, g 130, g 131, g 132, g 133, g 134, g 135, g 136, g 137, g 138, g 139, g 140, g 141, g 142, g 143, g 144], []⟩) (fun (j : Nat) (y : Bool) => [] ++ ob2 ++ ob) (fun (j : Nat) (y : Bool) => i - j) 0 z (by (try dsimp only); exact ⟨Nat.zero_le _, hz⟩) (by kernel_rfl) (by first | (dsimp only; done) | ((try dsimp only); kernel_rfl)) ?_
      rintro j y g18 ⟨hj, hy⟩
      refine C_seq ?_
      refine C_seq ?_
      refine C_region ?_
      refine S_val (.int .i64 ((j : Nat) : Int)) (by kernel_rfl) (fun _ _ => by kernel_rfl) ?_
      refine S_val (.int .i64 ((i : Nat) : Int)) (by kernel_rfl) (fun _ _ => by kernel_rfl) ?_
      refine S_val (.bool (decide (((j : Nat) : Int) < ((i : Nat) : Int)))) (by kernel_rfl) (fun _ _ => by kernel_rfl) ?_
      refine S_nil ?_
      refine E_then ?_
      refine C_if (decide (((j : Nat) : Int) < ((i : Nat) : Int))) (by kernel_rfl) (fun hc2 => ?_) (fun hc2 => ?_)
      · replace hc2 := of_decide_eq_true hc2
        refine C_skip ?_
        refine E_then ?_
        refine C_seq ?_
        refine C_block ?_
        by_cases hyy : y = true
        · subst hyy
          refine C_drawn [.pure, .pure, .pure, .pure, .pure, .pure, .pure, .pure, .pure, .pure, .pure, .pure, .pure, .pure, .pure] (by kernel_rfl) (by kernel_rfl) ?_
          refine D_val (.bool true) (by kernel_rfl) (fun _ => by kernel_rfl) ?_
          refine D_val (.bool true) (by kernel_rfl) (fun _ => by kernel_rfl) ?_
          refine D_not (by kernel_rfl) ?_
          refine D_not (by kernel_rfl) ?_
          refine D_not (by kernel_rfl) ?_
          refine D_not (by kernel_rfl) ?_
          refine D_not (by kernel_rfl) ?_
          refine D_not (by kernel_rfl) ?_
          refine D_not (by kernel_rfl) ?_
          refine D_not (by kernel_rfl) ?_
          refine D_not (by kernel_rfl) ?_
          refine D_not (by kernel_rfl) ?_
          refine D_not (by kernel_rfl) ?_
          refine D_val (.bool true) (by kernel_rfl) (fun _ => by kernel_rfl) ?_
          refine D_val (.bool true) (by kernel_rfl) (fun _ => by kernel_rfl) ?_
          refine D_nil ?_
          refine E_inblock ?_
          refine E_then ?_
          refine C_region ?_
          refine S_val (.int .i64 ((j : Nat) : Int)) (by kernel_rfl) (fun _ _ => by kernel_rfl) ?_
          refine S_val (.int .i64 ((j + 1 : Nat) : Int)) (by kernel_rfl) (fun _ _ => fv (v := .int .i64 (IntKind.i64.wrap (((j : Nat) : Int) + 1))) (vint (w64 (by omega) (by omega) (by omega))) (by kernel_rfl)) ?_
          refine S_val (.int .i64 ((j + 1 : Nat) : Int)) (by kernel_rfl) (fun _ _ => by kernel_rfl) ?_
          refine S_nil ?_
          exact E_norm (fun w hw => ⟨j + 1, true, ⟨by omega, twt hy⟩, (by kernel_rfl), (by (try dsimp only); omega), hw⟩)
        · have hyy : y = false := by simpa using hyy
          subst hyy
          refine C_drawn [.pure, .pure, .pure, .pure, .pure, .held, .held, .pure, .pure, .pure, .held, .held, .pure, .pure, .pure] (by kernel_rfl) (by kernel_rfl) ?_
          refine D_val (.bool false) (by kernel_rfl) (fun _ => by kernel_rfl) ?_
          refine D_val (.bool false) (by kernel_rfl) (fun _ => by kernel_rfl) ?_
          refine D_val (.slice (some ⟨g15, 0, none⟩) X.length cap5) (by kernel_rfl) (fun _ => by kernel_rfl) ?_
          refine D_val (.int .i64 ((i : Nat) : Int)) (by kernel_rfl) (fun _ => by kernel_rfl) ?_
          refine D_val (.pointer (some ⟨g15, 0 + i * 1, none⟩)) (by kernel_rfl) (ixS (k := .i64) g15 0 X.length cap5 1 i rfl (by kernel_rfl) (by kernel_rfl) Try.underlying69 Try.sizeOf72 (by omega)) ?_
          refine D_held (.agg #[.int .i64 (X.getD i 0)]) (by kernel_rfl) (ldW f7_len 0 i g15 0 (0 + i * 1) (fun w hO => Rd.rdB (cap := cap5) (len := X.length) (Rw.rd' f7_len rfl hr3 hO (((List.sublist_append_right (([] : List B)) ob2).trans (List.sublist_append_left (([] : List B) ++ ob2) ob))))) rfl (by kernel_rfl) rfl (by omega) Try.isAgg72 Try.sizeOf72) ?_
          refine D_pure (v := .int .i64 ((X.getD i 0) % 7)) (by kernel_rfl) (c_r (X.getD i 0)) (fun _ => by kernel_rfl) ?_
          refine D_val (.slice (some ⟨g15, 0, none⟩) X.length cap5) (by kernel_rfl) (fun _ => by kernel_rfl) ?_
          refine D_val (.int .i64 ((j : Nat) : Int)) (by kernel_rfl) (fun _ => by kernel_rfl) ?_
          refine D_val (.pointer (some ⟨g15, 0 + j * 1, none⟩)) (by kernel_rfl) (ixS (k := .i64) g15 0 X.length cap5 1 j rfl (by kernel_rfl) (by kernel_rfl) Try.underlying69 Try.sizeOf72 (by omega)) ?_
          refine D_held (.agg #[.int .i64 (X.getD j 0)]) (by kernel_rfl) (ldW f7_len 0 j g15 0 (0 + j * 1) (fun w hO => Rd.rdB (cap := cap5) (len := X.length) (Rw.rd' f7_len rfl hr3 hO (((List.sublist_append_right (([] : List B)) ob2).trans (List.sublist_append_left (([] : List B) ++ ob2) ob))))) rfl (by kernel_rfl) rfl (by omega) Try.isAgg72 Try.sizeOf72) ?_
          refine D_pure (v := .int .i64 ((X.getD j 0) % 7)) (by kernel_rfl) (c_r (X.getD j 0)) (fun _ => by kernel_rfl) ?_
          refine D_val (.bool (((X.getD i 0) % 7) == ((X.getD j 0) % 7))) (by kernel_rfl) (fun _ => by kernel_rfl) ?_
          refine D_val (.bool (((X.getD i 0) % 7) == ((X.getD j 0) % 7))) (by kernel_rfl) (fun _ => by kernel_rfl) ?_
          refine D_val (.bool (((X.getD i 0) % 7) == ((X.getD j 0) % 7))) (by kernel_rfl) (fun _ => by kernel_rfl) ?_
          refine D_nil ?_
          refine E_inblock ?_
          refine E_then ?_
          refine C_region ?_
          refine S_val (.int .i64 ((j : Nat) : Int)) (by kernel_rfl) (fun _ _ => by kernel_rfl) ?_
          refine S_val (.int .i64 ((j + 1 : Nat) : Int)) (by kernel_rfl) (fun _ _ => fv (v := .int .i64 (IntKind.i64.wrap (((j : Nat) : Int) + 1))) (vint (w64 (by omega) (by omega) (by omega))) (by kernel_rfl)) ?_
          refine S_val (.int .i64 ((j + 1 : Nat) : Int)) (by kernel_rfl) (fun _ _ => by kernel_rfl) ?_
          refine S_nil ?_
          exact E_norm (fun w hw => ⟨j + 1, ((X.getD i 0) % 7) == ((X.getD j 0) % 7), ⟨by omega, twf hy⟩, (by kernel_rfl), (by (try dsimp only); omega), hw⟩)
      · replace hc2 := of_decide_eq_false hc2
        obtain rfl : i = j := by omega
        refine C_exit ?_
        refine E_pass_exit ?_
        refine E_pass_exit ?_
        refine E_outblock ?_
        refine E_inblock ?_
        refine E_then ?_
        refine C_region ?_
        refine S_val (.int .i64 ((i : Nat) : Int)) (by kernel_rfl) (fun _ _ => by kernel_rfl) ?_
        refine S_val (.int .i64 ((i + 1 : Nat) : Int)) (by kernel_rfl) (fun _ _ => fv (v := .int .i64 (IntKind.i64.wrap (((i : Nat) : Int) + 1))) (vint (w64 (by omega) (by omega) (by omega))) (by kernel_rfl)) ?_
        refine S_val (.int .i64 ((i + 1 : Nat) : Int)) (by kernel_rfl) (fun _ _ => by kernel_rfl) ?_
        refine S_nil ?_
        exact E_norm (fun w hw => ⟨i + 1, y, ⟨by omega, tws hy⟩, (by kernel_rfl), (by (try dsimp only); omega), hw⟩)
    · replace hc := of_decide_eq_false hc
      obtain rfl : i = X.length := by omega
      refine C_exit ?_
      refine E_pass_exit ?_
      refine E_pass_exit ?_
      refine E_outblock ?_
      refine E_then ?_
      refine C_seq ?_
      refine C_region ?_
      refine S_val (.slice ao4 X.length cap5) (by kernel_rfl) (fun _ _ => by kernel_rfl) ?_
      refine S_val (.slice aoY X.length capY) (by kernel_rfl) (fun _ _ => by kernel_rfl) ?_
      refine S_call (by kernel_rfl) (fun _ _ => by kernel_rfl) (fun w hO => ((c_interp_nil w (.slice ao4 X.length cap5) (.slice aoY X.length capY) X (Y.take X.length) (Rw.rd' f7_len rfl hr3 hO (((List.sublist_append_right (([] : List B)) ob2).trans (List.sublist_append_left (([] : List B) ++ ob2) ob)))) (take_rd (Rw.rd' f7_len rfl hrY hO ((List.sublist_append_right (([] : List B) ++ ob2) ob))) hge) (by simp; omega) (by omega) h0 hnd)).mono fun _ _ ⟨he, hb⟩ => ⟨.tuple #[.slice none 0 0, .int .i64 0], _, he, hO.call hb, ?_⟩)
      refine S_val (.tuple #[.slice none 0 0, .int .i64 0]) (by kernel_rfl) (fun _ _ => by kernel_rfl) ?_
      refine S_val (.slice none 0 0) (by kernel_rfl) (fun _ _ => by kernel_rfl) ?_
      refine S_val (.int .i64 0) (by kernel_rfl) (fun _ _ => by kernel_rfl) ?_
      refine S_val (.slice none 0 0) (by kernel_rfl) (fun _ _ => by kernel_rfl) ?_
      refine S_val (.int .i64 0) (by kernel_rfl) (fun _ _ => by kernel_rfl) ?_
      refine S_nil ?_
      refine E_then ?_
      refine C_seq ?_
      refine C_seq ?_
      refine C_region ?_
      refine S_val (.bool z) (by kernel_rfl) (fun _ _ => by kernel_rfl) ?_
      refine S_nil ?_
      refine E_then ?_
      refine C_falseb (t := z) (by kernel_rfl) (by cases z with | false => rfl | true => exact absurd ((dup_tw X).2 (hz.1 rfl)) hnd) ?_
      refine C_skip ?_
      refine E_then ?_
      refine C_seq ?_
      refine C_seq ?_
      refine C_region ?_
      refine S_val (.int .i64 0) (by kernel_rfl) (fun _ _ => by kernel_rfl) ?_
      refine S_val (.bool false) (by kernel_rfl) (fun _ _ => by kernel_rfl) ?_
      refine S_val (.bool false) (by kernel_rfl) (fun _ _ => by kernel_rfl) ?_
      refine S_val (.slice none 0 0) (by kernel_rfl) (fun _ _ => by kernel_rfl) ?_
      refine S_val (.int .i64 0) (by kernel_rfl) (fun _ _ => by kernel_rfl) ?_
      refine S_val (.slice ao4 X.length cap5) (by kernel_rfl) (fun _ _ => by kernel_rfl) ?_
      refine S_val (.int .i64 ((X.length : Nat) : Int)) (by kernel_rfl) (fun _ _ => by kernel_rfl) ?_
      refine S_val (.bool false) (by kernel_rfl) (fun _ _ => fv (v := .bool (0 != ((X.length : Nat) : Int))) (vbool (bne_eq_false_iff_eq.2 (by omega))) (by kernel_rfl)) ?_
      refine S_val (.bool false) (by kernel_rfl) (fun _ _ => by kernel_rfl) ?_
      refine S_nil ?_
      refine E_then ?_
      refine C_false (by kernel_rfl) ?_
      refine C_skip ?_
      refine E_then ?_
      refine C_seq ?_
      refine C_region ?_
      refine S_val (.slice none 0 0) (by kernel_rfl) (fun _ _ => by kernel_rfl) ?_
      refine S_nil ?_
      refine E_then ?_
      refine C_seq ?_
      refine C_seq ?_
      refine C_region ?_
      refine S_val (.int .i64 0) (by kernel_rfl) (fun _ _ => by kernel_rfl) ?_
      refine S_nil ?_
      refine E_then ?_
      refine C_block ?_
      refine C_unroll 1 ?_
      refine R_succ ?_
      refine C_seq ?_
      refine C_seq ?_
      refine C_region ?_
      refine S_val (.int .i64 0) (by kernel_rfl) (fun _ _ => by kernel_rfl) ?_
      refine S_val (.slice ao4 X.length cap5) (by kernel_rfl) (fun _ _ => by kernel_rfl) ?_
      refine S_val (.int .i64 ((X.length : Nat) : Int)) (by kernel_rfl) (fun _ _ => by kernel_rfl) ?_
      refine S_val (.bool false) (by kernel_rfl) (fun _ _ => fv (v := .bool (decide (0 < ((X.length : Nat) : Int)))) (vbool (decide_eq_false (by omega))) (by kernel_rfl)) ?_
      refine S_nil ?_
      refine E_then ?_
      refine C_false (by kernel_rfl) ?_
      refine C_exit ?_
      refine E_pass_exit ?_
      refine E_pass_exit ?_
      refine E_outblock ?_
      refine E_then ?_
      refine C_seq ?_
      refine C_region ?_
      refine S_val (.slice ao4 X.length cap5) (by kernel_rfl) (fun _ _ => by kernel_rfl) ?_
      refine S_val (.slice none 0 0) (by kernel_rfl) (fun _ _ => by kernel_rfl) ?_
      refine S_call (by kernel_rfl) (fun _ _ => by kernel_rfl) (fun w hO => ((c_interp_nil w (.slice ao4 X.length cap5) (.slice none 0 0) X [] (Rw.rd' f7_len rfl hr3 hO (((List.sublist_append_right (([] : List B)) ob2).trans (List.sublist_append_left (([] : List B) ++ ob2) ob)))) Rd.nil h0.symm (by omega) h0 hnd)).mono fun _ _ ⟨he, hb⟩ => ⟨.tuple #[.slice none 0 0, .int .i64 0], _, he, hO.call hb, ?_⟩)
      refine S_val (.tuple #[.slice none 0 0, .int .i64 0]) (by kernel_rfl) (fun _ _ => by kernel_rfl) ?_
      refine S_val (.slice none 0 0) (by kernel_rfl) (fun _ _ => by kernel_rfl) ?_
      refine S_val (.int .i64 0) (by kernel_rfl) (fun _ _ => by kernel_rfl) ?_
      refine S_val (.slice none 0 0) (by kernel_rfl) (fun _ _ => by kernel_rfl) ?_
      refine S_val (.int .i64 0) (by kernel_rfl) (fun _ _ => by kernel_rfl) ?_
      refine S_nil ?_
      refine E_then ?_
      refine C_seq ?_
      refine C_seq ?_
      refine C_region ?_
      refine S_val (.int .i64 0) (by kernel_rfl) (fun _ _ => by kernel_rfl) ?_
      refine S_val (.bool false) (by kernel_rfl) (fun _ _ => by kernel_rfl) ?_
      refine S_val (.bool false) (by kernel_rfl) (fun _ _ => by kernel_rfl) ?_
      refine S_val (.slice none 0 0) (by kernel_rfl) (fun _ _ => by kernel_rfl) ?_
      refine S_val (.int .i64 0) (by kernel_rfl) (fun _ _ => by kernel_rfl) ?_
      refine S_val (.slice aoY X.length capY) (by kernel_rfl) (fun _ _ => by kernel_rfl) ?_
      refine S_val (.int .i64 ((X.length : Nat) : Int)) (by kernel_rfl) (fun _ _ => by kernel_rfl) ?_
      refine S_val (.bool false) (by kernel_rfl) (fun _ _ => fv (v := .bool (0 != ((X.length : Nat) : Int))) (vbool (bne_eq_false_iff_eq.2 (by omega))) (by kernel_rfl)) ?_
      refine S_val (.bool false) (by kernel_rfl) (fun _ _ => by kernel_rfl) ?_
      refine S_nil ?_
      refine E_then ?_
      refine C_false (by kernel_rfl) ?_
      refine C_skip ?_
      refine E_then ?_
      refine C_seq ?_
      refine C_seq ?_
      refine C_region ?_
      refine S_val (.int .i64 0) (by kernel_rfl) (fun _ _ => by kernel_rfl) ?_
      refine S_nil ?_
      refine E_then ?_
      refine C_block ?_
      refine C_unroll 1 ?_
      refine R_succ ?_
      refine C_seq ?_
      refine C_seq ?_
      refine C_region ?_
      refine S_val (.int .i64 0) (by kernel_rfl) (fun _ _ => by kernel_rfl) ?_
      refine S_val (.slice none 0 0) (by kernel_rfl) (fun _ _ => by kernel_rfl) ?_
      refine S_val (.int .i64 0) (by kernel_rfl) (fun _ _ => by kernel_rfl) ?_
      refine S_val (.bool false) (by kernel_rfl) (fun _ _ => by kernel_rfl) ?_
      refine S_nil ?_
      refine E_then ?_
      refine C_false (by kernel_rfl) ?_
      refine C_exit ?_
      refine E_pass_exit ?_
      refine E_pass_exit ?_
      refine E_outblock ?_
      refine E_then ?_
      refine C_seq ?_
      refine C_region ?_
      refine S_val (.bool true) (by kernel_rfl) (fun _ _ => by kernel_rfl) ?_
      refine S_nil ?_
      refine E_then ?_
      refine C_ret ?_
      exact pure_ret rfl (res1 Try.results10 (by kernel_rfl))
theorem walk_field_on (w0 : World) (vp vq : Value) (p q X : List Int) (hX : X = p.take 40) (h0 : 0 < X.length) (hnd : ¬ dup X) (hvp : Rd w0 vp 1 f7 p) (hvq : Rd w0 vq 1 f7 q) : Calls Try.prog 10 #[vp, vq] w0 fun e w' => e = .returned (.bool true) ∧ Below w0.heap.size w0 w' := by
  have hX40 : X.length ≤ 40 := by subst hX; simp; omega
  refine calls_start Try.func10 rfl ?_
  refine C_seq ?_
  refine C_region ?_
  refine S_val (.bool false) (by kernel_rfl) (fun _ _ => by kernel_rfl) ?_
  refine S_nil ?_
  refine E_then ?_
  refine C_seq ?_
  refine C_seq ?_
  refine C_region ?_
  refine S_pure (v := .bool true) (by kernel_rfl) c_alive (fun _ => by kernel_rfl) ?_
  refine S_val (.bool false) (by kernel_rfl) (fun _ _ => by kernel_rfl) ?_
  refine S_nil ?_
  refine E_then ?_
  refine C_false (by kernel_rfl) ?_
  refine C_skip ?_
  refine E_then ?_
  refine C_seq ?_
  refine C_region ?_
  refine S_val (vp) (by kernel_rfl) (fun _ _ => by kernel_rfl) ?_
  refine S_gives (mk := fun v0 => v0) (by kernel_rfl) (fun _ _ => by kernel_rfl) (fun w hO => (c_sevens' w vp p X hX (hvp.own hO))) ?_
  intro v1 ob2 hr3
  obtain ⟨ao4, cap5, rfl⟩ := hr3.len
  refine S_val (.slice ao4 X.length cap5) (by kernel_rfl) (fun _ _ => by kernel_rfl) ?_
  refine S_nil ?_
  refine E_then ?_
  refine C_seq ?_
  refine C_region ?_
  refine S_val (vq) (by kernel_rfl) (fun _ _ => by kernel_rfl) ?_
  refine S_gives (mk := fun v0 => v0) (by kernel_rfl) (fun _ _ => by kernel_rfl) (fun w hO => (c_sevens w vq q (hvq.own hO))) ?_
  intro v6 ob7 hr8
  refine S_val (v6) (by kernel_rfl) (fun _ _ => by kernel_rfl) ?_
  refine S_nil ?_
  refine E_then ?_
  refine C_seq ?_
  refine C_block ?_
  refine C_loop3 (fun (Y : List Int) (v : Value) (ob : List B) => (Y.length ≤ 60) ∧ (Rw 72 1 v Y.length (Y.flatMap f7) ob)) (fun (Y : List Int) (v : Value) (ob : List B) => fun g => ⟨#[g 0, g 1, g 2, g 3, g 4, .slice ao4 X.length cap5, v, g 7, g 8, g 9, g 10, g 11, g 12, g 13, g 14, g 15, g 16, g 17, g 18, g 19, g 20, g 21, g 22, g 23, g 24, g 25, g 26, g 27, g 28, g 29, g 30, g 31, g 32, g 33, g 34, g 35, g 36, g 37, g 38, g 39, g 40, g 41, g 42, g 43, g 44, g 45, g 46, g 47, g 48, g 49, g 50, g 51, g 52, g 53, g 54, g 55, g 56, g 57, g 58, g 59, g 60, g 61, g 62, g 63, g 64, g 65, g 66, g 67, g 68, g 69, g 70, g 71, g 72, g 73, g 74, g 75, g 76, g 77, g 78, g 79, g 80, g 81, g 82, g 83, g 84, g 85, g 86, g 87, g 88, g 89, g 90, g 91, g 92, g 93, g 94, g 95, g 96, g 97, g 98, g 99, g 100, g 101, g 102, g 103, g 104, g 105, g 106, g 107, g 108, g 109, g 110, g 111, g 112, g 113, g 114, g 115, g 116, g 117, g 118, g 119, g 120, g 121, g 122, g 123, g 124, g 125, g 126, g 127, g 128, g 129, g 130, g 131, g 132, g 133, g 134, g 135, g 136, g 137, g 138, g 139, g 140, g 141, g 142, g 143, g 144], []⟩) (fun (Y : List Int) (v : Value) (ob : List B) => [] ++ ob2 ++ ob) (fun (Y : List Int) (v : Value) (ob : List B) => X.length - Y.length) (q.take 40) v6 ob7 (by (try dsimp only); exact ⟨(by simp; omega), (by rw [List.length_take, Nat.min_comm]; exact hr8)⟩) (by kernel_rfl) (by first | (dsimp only; done) | ((try dsimp only); kernel_rfl)) ?_
  rintro Y v ob g9 ⟨hYl, hrY⟩
  obtain ⟨aoY, capY, rfl⟩ := hrY.len
  refine C_seq ?_
  refine C_seq ?_
  refine C_region ?_
  refine S_val (.slice aoY Y.length capY) (by kernel_rfl) (fun _ _ => by kernel_rfl) ?_
  refine S_val (.int .i64 ((Y.length : Nat) : Int)) (by kernel_rfl) (fun _ _ => by kernel_rfl) ?_
  refine S_val (.slice ao4 X.length cap5) (by kernel_rfl) (fun _ _ => by kernel_rfl) ?_
  refine S_val (.int .i64 ((X.length : Nat) : Int)) (by kernel_rfl) (fun _ _ => by kernel_rfl) ?_
  refine S_val (.bool (decide (((Y.length : Nat) : Int) < ((X.length : Nat) : Int)))) (by kernel_rfl) (fun _ _ => by kernel_rfl) ?_
  refine S_nil ?_
  refine E_then ?_
  refine C_if (decide (((Y.length : Nat) : Int) < ((X.length : Nat) : Int))) (by kernel_rfl) (fun hge => ?_) (fun hge => ?_)
  · replace hge := of_decide_eq_true hge
    refine C_skip ?_
    refine E_then ?_
    refine C_block ?_
    refine C_region ?_
    refine S_val (.slice aoY Y.length capY) (by kernel_rfl) (fun _ _ => by kernel_rfl) ?_
    refine S_val (.slice aoY Y.length capY) (by kernel_rfl) (fun _ _ => by kernel_rfl) ?_
    refine S_val (.int .i64 ((Y.length : Nat) : Int)) (by kernel_rfl) (fun _ _ => by kernel_rfl) ?_
    refine S_val (.agg #[.int .i64 ((Y.length : Nat) : Int)]) (by kernel_rfl) (fun _ _ => by kernel_rfl) ?_
    refine S_newv (fun nb0 => .slice (some ⟨nb0, 0, none⟩) 1 1) [.int .i64 ((Y.length : Nat) : Int)] 72 (by kernel_rfl) (fun w _ => by kernel_rfl) ?_
    intro b10 hb10 Hb10
    refine S_app (sz := 1) (n := Y.length + 1) (xs := (Y.flatMap f7) ++ [.int .i64 ((Y.length : Nat) : Int)]) (fun ob' => [⟨b10, [.int .i64 ((Y.length : Nat) : Int)], 72⟩] ++ ob2 ++ ob') (by intro ob'; simp) (by kernel_rfl) (up_app (L1 := [⟨b10, [.int .i64 ((Y.length : Nat) : Int)], 72⟩] ++ ob2) (ob := ob) (L2 := []) (n := Y.length) (xs := (Y.flatMap f7)) 69 72 Try.t72 (.agg #[.int .i64 0]) Try.underlying69 (by kernel_rfl) (by kernel_rfl) (by kernel_rfl) rfl hrY (by simp) ⟨b10, 0, none⟩ 1 1 [.int .i64 ((Y.length : Nat) : Int)] (by kernel_rfl) (by kernel_rfl) (by kernel_rfl) (fun w hO j9 u9 hu => by rw [add_none, Nat.zero_add, hO.cellAt 0 (b := b10) (cs := [.int .i64 ((Y.length : Nat) : Int)]) (ty := 72) (by kernel_rfl)]; exact hu) (by simp [Value.oneCell']) (by decide) (by simp only [Try.t72]; omega) (le_maxLen (by omega))) ?_
    intro v11 ob12 hr13
    replace hr13 : Rw 72 1 v11 (Y.length + 1) ((Y ++ [((Y.length : Nat) : Int)]).flatMap f7) ob12 := by first | exact hr13 | (rw [List.flatMap_append]; exact hr13)
    refine S_val (v11) (by kernel_rfl) (fun _ _ => by kernel_rfl) ?_
    refine S_nil ?_
    refine E_inblock ?_
    exact E_norm (fun w hw => ⟨Y ++ [((Y.length : Nat) : Int)], v11, ob12, ⟨(by simp; omega), (by rw [List.length_append]; exact hr13)⟩, (by kernel_rfl), (by (try dsimp only); (simp only [List.length_append, List.length_cons, List.length_nil]; omega)), hw.tail⟩)
  · replace hge := of_decide_eq_false hge
    replace hge : X.length ≤ Y.length := by omega
    refine C_exit ?_
    refine E_pass_exit ?_
    refine E_pass_exit ?_
    refine E_outblock ?_
    refine E_then ?_
    refine C_seq ?_
    refine C_region ?_
    refine S_val (.slice aoY Y.length capY) (by kernel_rfl) (fun _ _ => by kernel_rfl) ?_
    refine S_val (.slice ao4 X.length cap5) (by kernel_rfl) (fun _ _ => by kernel_rfl) ?_
    refine S_val (.int .i64 ((X.length : Nat) : Int)) (by kernel_rfl) (fun _ _ => by kernel_rfl) ?_
    refine S_val (.slice aoY X.length capY) (by kernel_rfl) (fun w _ => (sl0 (k := .i64) (h := X.length) Try.underlying69 Try.sizeOf72 rfl (by kernel_rfl) (by kernel_rfl) (by omega) (Rw.lecap hrY)) w) ?_
    refine S_val (.slice aoY X.length capY) (by kernel_rfl) (fun _ _ => by kernel_rfl) ?_
    refine S_nil ?_
    refine E_then ?_
    refine C_seq ?_
    refine C_region ?_
    refine S_val (.bool false) (by kernel_rfl) (fun _ _ => by kernel_rfl) ?_
    refine S_nil ?_
    refine E_then ?_
    refine C_seq ?_
    refine C_seq ?_
    refine C_region ?_
    refine S_val (.int .i64 0) (by kernel_rfl) (fun _ _ => by kernel_rfl) ?_
    refine S_nil ?_
    refine E_then ?_
    refine C_block ?_
    refine C_loop2 (fun (i : Nat) (z : Bool) => (i ≤ X.length) ∧ (z = true ↔ tw X i 0)) (fun (i : Nat) (z : Bool) => fun g => ⟨#[g 0, g 1, g 2, g 3, g 4, .slice ao4 X.length cap5, .slice aoY X.length capY, .bool z, .int .i64 ((i : Nat) : Int), g 9, g 10, g 11, g 12, g 13, g 14, g 15, g 16, g 17, g 18, g 19, g 20, g 21, g 22, g 23, g 24, g 25, g 26, g 27, g 28, g 29, g 30, g 31, g 32, g 33, g 34, g 35, g 36, g 37, g 38, g 39, g 40, g 41, g 42, g 43, g 44, g 45, g 46, g 47, g 48, g 49, g 50, g 51, g 52, g 53, g 54, g 55, g 56, g 57, g 58, g 59, g 60, g 61, g 62, g 63, g 64, g 65, g 66, g 67, g 68, g 69, g 70, g 71, g 72, g 73, g 74, g 75, g 76, g 77, g 78, g 79, g 80, g 81, g 82, g 83, g 84, g 85, g 86, g 87, g 88, g 89, g 90, g 91, g 92, g 93, g 94, g 95, g 96, g 97, g 98, g 99, g 100, g 101, g 102, g 103, g 104, g 105, g 106, g 107, g 108, g 109, g 110, g 111, g 112, g 113, g 114, g 115, g 116, g 117, g 118, g 119, g 120, g 121, g 122, g 123, g 124, g 125, g 126, g 127, g 128, g 129, g 130, g 131, g 132, g 133, g 134, g 135, g 136, g 137, g 138, g 139, g 140, g 141, g 142, g 143, g 144], []⟩) (fun (i : Nat) (z : Bool) => [] ++ ob2 ++ ob) (fun (i : Nat) (z : Bool) => X.length - i) 0 false (by (try dsimp only); exact ⟨Nat.zero_le _, tw0 X⟩) (by kernel_rfl) (by first | (dsimp only; done) | ((try dsimp only); kernel_rfl)) ?_
    rintro i z g14 ⟨hi, hz⟩
    refine C_seq ?_
    refine C_seq ?_
    refine C_region ?_
    refine S_val (.int .i64 ((i : Nat) : Int)) (by kernel_rfl) (fun _ _ => by kernel_rfl) ?_
    refine S_val (.slice ao4 X.length cap5) (by kernel_rfl) (fun _ _ => by kernel_rfl) ?_
    refine S_val (.int .i64 ((X.length : Nat) : Int)) (by kernel_rfl) (fun _ _ => by kernel_rfl) ?_
    refine S_val (.bool (decide (((i : Nat) : Int) < ((X.length : Nat) : Int)))) (by kernel_rfl) (fun _ _ => by kernel_rfl) ?_
    refine S_nil ?_
    refine E_then ?_
    refine C_if (decide (((i : Nat) : Int) < ((X.length : Nat) : Int))) (by kernel_rfl) (fun hc => ?_) (fun hc => ?_)
    · replace hc := of_decide_eq_true hc
      obtain ⟨g15, cap16, sp17, eg15, _⟩ := Rw.op' rfl hr3 (by omega)
      cases eg15
      refine C_skip ?_
      refine E_then ?_
      refine C_seq ?_
      refine C_block ?_
      refine C_seq ?_
      refine C_region ?_
      refine S_val (.int .i64 0) (by kernel_rfl) (fun _ _ => by kernel_rfl) ?_
      refine S_nil ?_
      refine E_then ?_
      refine C_block ?_
      refine C_loop2 (fun (j : Nat) (y : Bool) => (j ≤ i) ∧ (y = true ↔ tw X i j)) (fun (j : Nat) (y : Bool) => fun g => ⟨#[g 0, g 1, g 2, g 3, g 4, .slice (some ⟨g15, 0, none⟩) X.length cap5, .slice aoY X.length capY, .bool y, .int .i64 ((i : Nat) : Int), .int .i64 ((j : Nat) : Int), g 10, g 11, g 12, g 13, g 14, g 15, g 16, g 17, g 18, g 19, g 20, g 21, g 22, g 23, g 24, g 25, g 26, g 27, g 28, g 29, g 30, g 31, g 32, g 33, g 34, g 35, g 36, g 37, g 38, g 39, g 40, g 41, g 42, g 43, g 44, g 45, g 46, g 47, g 48, g 49, g 50, g 51, g 52, g 53, g 54, g 55, g 56, g 57, g 58, g 59, g 60, g 61, g 62, g 63, g 64, g 65, g 66, g 67, g 68, g 69, g 70, g 71, g 72, g 73, g 74, g 75, g 76, g 77, g 78, g 79, g 80, g 81, g 82, g 83, g 84, g 85, g 86, g 87, g 88, g 89, g 90, g 91, g 92, g 93, g 94, g 95, g 96, g 97, g 98, g 99, g 100, g 101, g 102, g 103, g 104, g 105, g 106, g 107, g 108, g 109, g 110, g 111, g 112, g 113, g 114, g 115, g 116, g 117, g 118, g 119, g 120, g 121, g 122, g 123, g 124, g 125, g 126, g 127, g 128, g 129, g 130, g 131, g 132, g 133, g 134, g 135, g 136, g 137, g 138, g 139, g 140, g 141, g 142, g 143, g 144], []⟩) (fun (j : Nat) (y : Bool) => [] ++ ob2 ++ ob) (fun (j : Nat) (y : Bool) => i - j) 0 z (by (try dsimp only); exact ⟨Nat.zero_le _, hz⟩) (by kernel_rfl) (by first | (dsimp only; done) | ((try dsimp only); kernel_rfl)) ?_
      rintro j y g18 ⟨hj, hy⟩
      refine C_seq ?_
      refine C_seq ?_
      refine C_region ?_
      refine S_val (.int .i64 ((j : Nat) : Int)) (by kernel_rfl) (fun _ _ => by kernel_rfl) ?_
      refine S_val (.int .i64 ((i : Nat) : Int)) (by kernel_rfl) (fun _ _ => by kernel_rfl) ?_
      refine S_val (.bool (decide (((j : Nat) : Int) < ((i : Nat) : Int)))) (by kernel_rfl) (fun _ _ => by kernel_rfl) ?_
      refine S_nil ?_
      refine E_then ?_
      refine C_if (decide (((j : Nat) : Int) < ((i : Nat) : Int))) (by kernel_rfl) (fun hc2 => ?_) (fun hc2 => ?_)
      · replace hc2 := of_decide_eq_true hc2
        refine C_skip ?_
        refine E_then ?_
        refine C_seq ?_
        refine C_block ?_
        by_cases hyy : y = true
        · subst hyy
          refine C_drawn [.pure, .pure, .pure, .pure, .pure, .pure, .pure, .pure, .pure, .pure, .pure, .pure, .pure, .pure, .pure] (by kernel_rfl) (by kernel_rfl) ?_
          refine D_val (.bool true) (by kernel_rfl) (fun _ => by kernel_rfl) ?_
          refine D_val (.bool true) (by kernel_rfl) (fun _ => by kernel_rfl) ?_
          refine D_not (by kernel_rfl) ?_
          refine D_not (by kernel_rfl) ?_
          refine D_not (by kernel_rfl) ?_
          refine D_not (by kernel_rfl) ?_
          refine D_not (by kernel_rfl) ?_
          refine D_not (by kernel_rfl) ?_
          refine D_not (by kernel_rfl) ?_
          refine D_not (by kernel_rfl) ?_
          refine D_not (by kernel_rfl) ?_
          refine D_not (by kernel_rfl) ?_
          refine D_not (by kernel_rfl) ?_
          refine D_val (.bool true) (by kernel_rfl) (fun _ => by kernel_rfl) ?_
          refine D_val (.bool true) (by kernel_rfl) (fun _ => by kernel_rfl) ?_
          refine D_nil ?_
          refine E_inblock ?_
          refine E_then ?_
          refine C_region ?_
          refine S_val (.int .i64 ((j : Nat) : Int)) (by kernel_rfl) (fun _ _ => by kernel_rfl) ?_
          refine S_val (.int .i64 ((j + 1 : Nat) : Int)) (by kernel_rfl) (fun _ _ => fv (v := .int .i64 (IntKind.i64.wrap (((j : Nat) : Int) + 1))) (vint (w64 (by omega) (by omega) (by omega))) (by kernel_rfl)) ?_
          refine S_val (.int .i64 ((j + 1 : Nat) : Int)) (by kernel_rfl) (fun _ _ => by kernel_rfl) ?_
          refine S_nil ?_
          exact E_norm (fun w hw => ⟨j + 1, true, ⟨by omega, twt hy⟩, (by kernel_rfl), (by (try dsimp only); omega), hw⟩)
        · have hyy : y = false := by simpa using hyy
          subst hyy
          refine C_drawn [.pure, .pure, .pure, .pure, .pure, .held, .held, .pure, .pure, .pure, .held, .held, .pure, .pure, .pure] (by kernel_rfl) (by kernel_rfl) ?_
          refine D_val (.bool false) (by kernel_rfl) (fun _ => by kernel_rfl) ?_
          refine D_val (.bool false) (by kernel_rfl) (fun _ => by kernel_rfl) ?_
          refine D_val (.slice (some ⟨g15, 0, none⟩) X.length cap5) (by kernel_rfl) (fun _ => by kernel_rfl) ?_
          refine D_val (.int .i64 ((i : Nat) : Int)) (by kernel_rfl) (fun _ => by kernel_rfl) ?_
          refine D_val (.pointer (some ⟨g15, 0 + i * 1, none⟩)) (by kernel_rfl) (ixS (k := .i64) g15 0 X.length cap5 1 i rfl (by kernel_rfl) (by kernel_rfl) Try.underlying69 Try.sizeOf72 (by omega)) ?_
          refine D_held (.agg #[.int .i64 (X.getD i 0)]) (by kernel_rfl) (ldW f7_len 0 i g15 0 (0 + i * 1) (fun w hO => Rd.rdB (cap := cap5) (len := X.length) (Rw.rd' f7_len rfl hr3 hO (((List.sublist_append_right (([] : List B)) ob2).trans (List.sublist_append_left (([] : List B) ++ ob2) ob))))) rfl (by kernel_rfl) rfl (by omega) Try.isAgg72 Try.sizeOf72) ?_
          refine D_pure (v := .int .i64 ((X.getD i 0) % 7)) (by kernel_rfl) (c_r (X.getD i 0)) (fun _ => by kernel_rfl) ?_
          refine D_val (.slice (some ⟨g15, 0, none⟩) X.length cap5) (by kernel_rfl) (fun _ => by kernel_rfl) ?_
          refine D_val (.int .i64 ((j : Nat) : Int)) (by kernel_rfl) (fun _ => by kernel_rfl) ?_
          refine D_val (.pointer (some ⟨g15, 0 + j * 1, none⟩)) (by kernel_rfl) (ixS (k := .i64) g15 0 X.length cap5 1 j rfl (by kernel_rfl) (by kernel_rfl) Try.underlying69 Try.sizeOf72 (by omega)) ?_
          refine D_held (.agg #[.int .i64 (X.getD j 0)]) (by kernel_rfl) (ldW f7_len 0 j g15 0 (0 + j * 1) (fun w hO => Rd.rdB (cap := cap5) (len := X.length) (Rw.rd' f7_len rfl hr3 hO (((List.sublist_append_right (([] : List B)) ob2).trans (List.sublist_append_left (([] : List B) ++ ob2) ob))))) rfl (by kernel_rfl) rfl (by omega) Try.isAgg72 Try.sizeOf72) ?_
          refine D_pure (v := .int .i64 ((X.getD j 0) % 7)) (by kernel_rfl) (c_r (X.getD j 0)) (fun _ => by kernel_rfl) ?_
          refine D_val (.bool (((X.getD i 0) % 7) == ((X.getD j 0) % 7))) (by kernel_rfl) (fun _ => by kernel_rfl) ?_
          refine D_val (.bool (((X.getD i 0) % 7) == ((X.getD j 0) % 7))) (by kernel_rfl) (fun _ => by kernel_rfl) ?_
          refine D_val (.bool (((X.getD i 0) % 7) == ((X.getD j 0) % 7))) (by kernel_rfl) (fun _ => by kernel_rfl) ?_
          refine D_nil ?_
          refine E_inblock ?_
          refine E_then ?_
          refine C_region ?_
          refine S_val (.int .i64 ((j : Nat) : Int)) (by kernel_rfl) (fun _ _ => by kernel_rfl) ?_
          refine S_val (.int .i64 ((j + 1 : Nat) : Int)) (by kernel_rfl) (fun _ _ => fv (v := .int .i64 (IntKind.i64.wrap (((j : Nat) : Int) + 1))) (vint (w64 (by omega) (by omega) (by omega))) (by kernel_rfl)) ?_
          refine S_val (.int .i64 ((j + 1 : Nat) : Int)) (by kernel_rfl) (fun _ _ => by kernel_rfl) ?_
          refine S_nil ?_
          exact E_norm (fun w hw => ⟨j + 1, ((X.getD i 0) % 7) == ((X.getD j 0) % 7), ⟨by omega, twf hy⟩, (by kernel_rfl), (by (try dsimp only); omega), hw⟩)
      · replace hc2 := of_decide_eq_false hc2
        obtain rfl : i = j := by omega
        refine C_exit ?_
        refine E_pass_exit ?_
        refine E_pass_exit ?_
        refine E_outblock ?_
        refine E_inblock ?_
        refine E_then ?_
        refine C_region ?_
        refine S_val (.int .i64 ((i : Nat) : Int)) (by kernel_rfl) (fun _ _ => by kernel_rfl) ?_
        refine S_val (.int .i64 ((i + 1 : Nat) : Int)) (by kernel_rfl) (fun _ _ => fv (v := .int .i64 (IntKind.i64.wrap (((i : Nat) : Int) + 1))) (vint (w64 (by omega) (by omega) (by omega))) (by kernel_rfl)) ?_
        refine S_val (.int .i64 ((i + 1 : Nat) : Int)) (by kernel_rfl) (fun _ _ => by kernel_rfl) ?_
        refine S_nil ?_
        exact E_norm (fun w hw => ⟨i + 1, y, ⟨by omega, tws hy⟩, (by kernel_rfl), (by (try dsimp only); omega), hw⟩)
    · replace hc := of_decide_eq_false hc
      obtain rfl : i = X.length := by omega
      refine C_exit ?_
      refine E_pass_exit ?_
      refine E_pass_exit ?_
      refine E_outblock ?_
      refine E_then ?_
      refine C_seq ?_
      refine C_region ?_
      refine S_val (.slice ao4 X.length cap5) (by kernel_rfl) (fun _ _ => by kernel_rfl) ?_
      refine S_val (.slice aoY X.length capY) (by kernel_rfl) (fun _ _ => by kernel_rfl) ?_
      refine S_gives (mk := fun v0 => .tuple #[v0, .int .i64 0]) (by kernel_rfl) (fun _ _ => by kernel_rfl) (fun w hO => (c_interp_on w (.slice ao4 X.length cap5) (.slice aoY X.length capY) X (Y.take X.length) (Rw.rd' f7_len rfl hr3 hO (((List.sublist_append_right (([] : List B)) ob2).trans (List.sublist_append_left (([] : List B) ++ ob2) ob)))) (take_rd (Rw.rd' f7_len rfl hrY hO ((List.sublist_append_right (([] : List B) ++ ob2) ob))) hge) (by simp; omega) (by omega) h0 hnd)) ?_
      intro v19 ob20 hr21
      obtain ⟨ao22, cap23, rfl⟩ := hr21.len
      refine S_val (.tuple #[.slice ao22 X.length cap23, .int .i64 0]) (by kernel_rfl) (fun _ _ => by kernel_rfl) ?_
      refine S_val (.slice ao22 X.length cap23) (by kernel_rfl) (fun _ _ => by kernel_rfl) ?_
      refine S_val (.int .i64 0) (by kernel_rfl) (fun _ _ => by kernel_rfl) ?_
      refine S_val (.slice ao22 X.length cap23) (by kernel_rfl) (fun _ _ => by kernel_rfl) ?_
      refine S_val (.int .i64 0) (by kernel_rfl) (fun _ _ => by kernel_rfl) ?_
      refine S_nil ?_
      refine E_then ?_
      refine C_seq ?_
      refine C_seq ?_
      refine C_region ?_
      refine S_val (.bool z) (by kernel_rfl) (fun _ _ => by kernel_rfl) ?_
      refine S_nil ?_
      refine E_then ?_
      refine C_falseb (t := z) (by kernel_rfl) (by cases z with | false => rfl | true => exact absurd ((dup_tw X).2 (hz.1 rfl)) hnd) ?_
      refine C_skip ?_
      refine E_then ?_
      refine C_seq ?_
      refine C_seq ?_
      refine C_region ?_
      refine S_val (.int .i64 0) (by kernel_rfl) (fun _ _ => by kernel_rfl) ?_
      refine S_val (.bool false) (by kernel_rfl) (fun _ _ => by kernel_rfl) ?_
      refine S_val (.bool false) (by kernel_rfl) (fun _ _ => by kernel_rfl) ?_
      refine S_val (.slice ao22 X.length cap23) (by kernel_rfl) (fun _ _ => by kernel_rfl) ?_
      refine S_val (.int .i64 ((X.length : Nat) : Int)) (by kernel_rfl) (fun _ _ => by kernel_rfl) ?_
      refine S_val (.slice ao4 X.length cap5) (by kernel_rfl) (fun _ _ => by kernel_rfl) ?_
      refine S_val (.int .i64 ((X.length : Nat) : Int)) (by kernel_rfl) (fun _ _ => by kernel_rfl) ?_
      refine S_val (.bool false) (by kernel_rfl) (fun _ _ => fv (v := .bool (((X.length : Nat) : Int) != ((X.length : Nat) : Int))) (vbool (bne_eq_false_iff_eq.2 (by omega))) (by kernel_rfl)) ?_
      refine S_val (.bool false) (by kernel_rfl) (fun _ _ => by kernel_rfl) ?_
      refine S_nil ?_
      refine E_then ?_
      refine C_false (by kernel_rfl) ?_
      refine C_skip ?_
      refine E_then ?_
      refine C_seq ?_
      refine C_region ?_
      refine S_val (.slice none 0 0) (by kernel_rfl) (fun _ _ => by kernel_rfl) ?_
      refine S_nil ?_
      refine E_then ?_
      refine C_seq ?_
      refine C_seq ?_
      refine C_region ?_
      refine S_val (.int .i64 0) (by kernel_rfl) (fun _ _ => by kernel_rfl) ?_
      refine S_nil ?_
      refine E_then ?_
      refine C_block ?_
      refine C_loop3 (fun (i : Nat) (v : Value) (oba : List B) => (i ≤ X.length) ∧ (Rw 72 1 v i ((evs X (Y.take X.length) i).flatMap f7) oba)) (fun (i : Nat) (v : Value) (oba : List B) => fun g => ⟨#[g 0, g 1, g 2, g 3, g 4, .slice ao4 X.length cap5, .slice aoY X.length capY, g 7, g 8, g 9, .slice ao22 X.length cap23, g 11, v, .int .i64 ((i : Nat) : Int), g 14, g 15, g 16, g 17, g 18, g 19, g 20, g 21, g 22, g 23, g 24, g 25, g 26, g 27, g 28, g 29, g 30, g 31, g 32, g 33, g 34, g 35, g 36, g 37, g 38, g 39, g 40, g 41, g 42, g 43, g 44, g 45, g 46, g 47, g 48, g 49, g 50, g 51, g 52, g 53, g 54, g 55, g 56, g 57, g 58, g 59, g 60, g 61, g 62, g 63, g 64, g 65, g 66, g 67, g 68, g 69, g 70, g 71, g 72, g 73, g 74, g 75, g 76, g 77, g 78, g 79, g 80, g 81, g 82, g 83, g 84, g 85, g 86, g 87, g 88, g 89, g 90, g 91, g 92, g 93, g 94, g 95, g 96, g 97, g 98, g 99, g 100, g 101, g 102, g 103, g 104, g 105, g 106, g 107, g 108, g 109, g 110, g 111, g 112, g 113, g 114, g 115, g 116, g 117, g 118, g 119, g 120, g 121, g 122, g 123, g 124, g 125, g 126, g 127, g 128, g 129, g 130, g 131, g 132, g 133, g 134, g 135, g 136, g 137, g 138, g 139, g 140, g 141, g 142, g 143, g 144], []⟩) (fun (i : Nat) (v : Value) (oba : List B) => [] ++ ob2 ++ ob ++ ob20 ++ oba) (fun (i : Nat) (v : Value) (oba : List B) => X.length - i) 0 (.slice none 0 0) [] (by (try dsimp only); exact ⟨Nat.zero_le _, Rw.nil 72 1⟩) (by kernel_rfl) (by first | (dsimp only; done) | ((try dsimp only); simp)) ?_
      rintro i v oba g24 ⟨hi, hra⟩
      obtain ⟨aoA, capA, rfl⟩ := hra.len
      refine C_seq ?_
      refine C_seq ?_
      refine C_region ?_
      refine S_val (.int .i64 ((i : Nat) : Int)) (by kernel_rfl) (fun _ _ => by kernel_rfl) ?_
      refine S_val (.slice ao4 X.length cap5) (by kernel_rfl) (fun _ _ => by kernel_rfl) ?_
      refine S_val (.int .i64 ((X.length : Nat) : Int)) (by kernel_rfl) (fun _ _ => by kernel_rfl) ?_
      refine S_val (.bool (decide (((i : Nat) : Int) < ((X.length : Nat) : Int)))) (by kernel_rfl) (fun _ _ => by kernel_rfl) ?_
      refine S_nil ?_
      refine E_then ?_
      refine C_if (decide (((i : Nat) : Int) < ((X.length : Nat) : Int))) (by kernel_rfl) (fun hc => ?_) (fun hc => ?_)
      · replace hc := of_decide_eq_true hc
        obtain ⟨g25, cap26, sp27, eg25, _⟩ := Rw.op' rfl hr3 (by omega)
        cases eg25
        obtain ⟨g28, cap29, sp30, eg28, _⟩ := Rw.op' rfl hrY (by omega)
        cases eg28
        refine C_skip ?_
        refine E_then ?_
        refine C_seq ?_
        refine C_block ?_
        refine C_seq ?_
        refine C_seq ?_
        refine C_drawn [.pure, .pure, .pure, .pure, .held, .held, .held, .pure, .pure, .pure, .held, .held, .pure] (by kernel_rfl) (by kernel_rfl) ?_
        refine D_val (.slice ao22 X.length cap23) (by kernel_rfl) (fun _ => by kernel_rfl) ?_
        refine D_val (.slice (some ⟨g25, 0, none⟩) X.length cap5) (by kernel_rfl) (fun _ => by kernel_rfl) ?_
        refine D_val (.int .i64 ((i : Nat) : Int)) (by kernel_rfl) (fun _ => by kernel_rfl) ?_
        refine D_val (.pointer (some ⟨g25, 0 + i * 1, none⟩)) (by kernel_rfl) (ixS (k := .i64) g25 0 X.length cap5 1 i rfl (by kernel_rfl) (by kernel_rfl) Try.underlying69 Try.sizeOf72 (by omega)) ?_
        refine D_held (.agg #[.int .i64 (X.getD i 0)]) (by kernel_rfl) (ldW f7_len 0 i g25 0 (0 + i * 1) (fun w hO => Rd.rdB (cap := cap5) (len := X.length) (Rw.rd' f7_len rfl hr3 hO (((((List.sublist_append_right (([] : List B)) ob2).trans (List.sublist_append_left (([] : List B) ++ ob2) ob)).trans (List.sublist_append_left (([] : List B) ++ ob2 ++ ob) ob20)).trans (List.sublist_append_left (([] : List B) ++ ob2 ++ ob ++ ob20) oba))))) rfl (by kernel_rfl) rfl (by omega) Try.isAgg72 Try.sizeOf72) ?_
        refine D_call (.agg #[.int .i64 (ev7 (ipo X (Y.take X.length) X.length) (X.getD i 0))]) (by kernel_rfl) (fun _ _ => by kernel_rfl) (fun w hO => (c_eval w (.slice ao22 X.length cap23) (ipo X (Y.take X.length) X.length) (X.getD i 0) (Rw.rd' f7_len (ipo_length _ _ _) hr21 hO (((List.sublist_append_right (([] : List B) ++ ob2 ++ ob) ob20).trans (List.sublist_append_left (([] : List B) ++ ob2 ++ ob ++ ob20) oba)))) (by rw [ipo_length]; omega))) ?_
        refine D_pure (v := .int .i64 ((ev7 (ipo X (Y.take X.length) X.length) (X.getD i 0)) % 7)) (by kernel_rfl) (c_r (ev7 (ipo X (Y.take X.length) X.length) (X.getD i 0))) (fun _ => by kernel_rfl) ?_
        refine D_val (.slice (some ⟨g28, 0, none⟩) X.length capY) (by kernel_rfl) (fun _ => by kernel_rfl) ?_
        refine D_val (.int .i64 ((i : Nat) : Int)) (by kernel_rfl) (fun _ => by kernel_rfl) ?_
        refine D_val (.pointer (some ⟨g28, 0 + i * 1, none⟩)) (by kernel_rfl) (ixS (k := .i64) g28 0 X.length capY 1 i rfl (by kernel_rfl) (by kernel_rfl) Try.underlying69 Try.sizeOf72 (by omega)) ?_
        refine D_held (.agg #[.int .i64 (Y.getD i 0)]) (by kernel_rfl) (ldW f7_len 0 i g28 0 (0 + i * 1) (fun w hO => Rd.rdB (cap := capY) (len := Y.length) (Rw.rd' f7_len rfl hrY hO ((((List.sublist_append_right (([] : List B) ++ ob2) ob).trans (List.sublist_append_left (([] : List B) ++ ob2 ++ ob) ob20)).trans (List.sublist_append_left (([] : List B) ++ ob2 ++ ob ++ ob20) oba))))) rfl (by kernel_rfl) rfl (by omega) Try.isAgg72 Try.sizeOf72) ?_
        refine D_pure (v := .int .i64 ((Y.getD i 0) % 7)) (by kernel_rfl) (c_r (Y.getD i 0)) (fun _ => by kernel_rfl) ?_
        refine D_val (.bool (((ev7 (ipo X (Y.take X.length) X.length) (X.getD i 0)) % 7) != ((Y.getD i 0) % 7))) (by kernel_rfl) (fun _ => by kernel_rfl) ?_
        refine D_nil ?_
        refine E_then ?_
        refine C_falseb (t := ((ev7 (ipo X (Y.take X.length) X.length) (X.getD i 0)) % 7) != ((Y.getD i 0) % 7)) (by kernel_rfl) (bne_eq_false_iff_eq.2 ((field1 (Y := (Y.take X.length)) h0 (by simp; omega) hnd i (by omega)).trans (by rw [List.getD_eq_getElem?_getD, List.getElem?_take, if_pos (by omega), ← List.getD_eq_getElem?_getD]))) ?_
        refine C_skip ?_
        refine E_then ?_
        refine C_region ?_
        refine S_val (.slice aoA i capA) (by kernel_rfl) (fun _ _ => by kernel_rfl) ?_
        refine S_val (.slice (some ⟨g28, 0, none⟩) X.length capY) (by kernel_rfl) (fun _ _ => by kernel_rfl) ?_
        refine S_val (.slice (some ⟨g25, 0, none⟩) X.length cap5) (by kernel_rfl) (fun _ _ => by kernel_rfl) ?_
        refine S_val (.int .i64 ((i : Nat) : Int)) (by kernel_rfl) (fun _ _ => by kernel_rfl) ?_
        refine S_val (.pointer (some ⟨g25, 0 + i * 1, none⟩)) (by kernel_rfl) (fun w _ => (ixS (k := .i64) g25 0 X.length cap5 1 i rfl (by kernel_rfl) (by kernel_rfl) Try.underlying69 Try.sizeOf72 (by omega)) w) ?_
        refine S_val (.agg #[.int .i64 (X.getD i 0)]) (by kernel_rfl) (ldW f7_len 0 i g25 0 (0 + i * 1) (fun w hO => Rd.rdB (cap := cap5) (len := X.length) (Rw.rd' f7_len rfl hr3 hO (((((List.sublist_append_right (([] : List B)) ob2).trans (List.sublist_append_left (([] : List B) ++ ob2) ob)).trans (List.sublist_append_left (([] : List B) ++ ob2 ++ ob) ob20)).trans (List.sublist_append_left (([] : List B) ++ ob2 ++ ob ++ ob20) oba))))) rfl (by kernel_rfl) rfl (by omega) Try.isAgg72 Try.sizeOf72) ?_
        refine S_call (by kernel_rfl) (fun _ _ => by kernel_rfl) (fun w hO => ((c_eval w (.slice (some ⟨g28, 0, none⟩) X.length capY) (Y.take X.length) (X.getD i 0) (take_rd (Rw.rd' f7_len rfl hrY hO ((((List.sublist_append_right (([] : List B) ++ ob2) ob).trans (List.sublist_append_left (([] : List B) ++ ob2 ++ ob) ob20)).trans (List.sublist_append_left (([] : List B) ++ ob2 ++ ob ++ ob20) oba)))) hge) (by simp; omega))).mono fun _ _ ⟨he, hb⟩ => ⟨.agg #[.int .i64 (ev7 (Y.take X.length) (X.getD i 0))], _, he, hO.call hb, ?_⟩)
        refine S_newv (fun nb0 => .slice (some ⟨nb0, 0, none⟩) 1 1) [.int .i64 (ev7 (Y.take X.length) (X.getD i 0))] 72 (by kernel_rfl) (fun w _ => by kernel_rfl) ?_
        intro b31 hb31 Hb31
        refine S_app (sz := 1) (n := i + 1) (xs := ((evs X (Y.take X.length) i).flatMap f7) ++ [.int .i64 (ev7 (Y.take X.length) (X.getD i 0))]) (fun ob' => [⟨b31, [.int .i64 (ev7 (Y.take X.length) (X.getD i 0))], 72⟩] ++ ob2 ++ ob ++ ob20 ++ ob') (by intro ob'; simp) (by kernel_rfl) (up_app (L1 := [⟨b31, [.int .i64 (ev7 (Y.take X.length) (X.getD i 0))], 72⟩] ++ ob2 ++ ob ++ ob20) (ob := oba) (L2 := []) (n := i) (xs := ((evs X (Y.take X.length) i).flatMap f7)) 69 72 Try.t72 (.agg #[.int .i64 0]) Try.underlying69 (by kernel_rfl) (by kernel_rfl) (by kernel_rfl) rfl hra (by simp) ⟨b31, 0, none⟩ 1 1 [.int .i64 (ev7 (Y.take X.length) (X.getD i 0))] (by kernel_rfl) (by kernel_rfl) (by kernel_rfl) (fun w hO j9 u9 hu => by rw [add_none, Nat.zero_add, hO.cellAt 0 (b := b31) (cs := [.int .i64 (ev7 (Y.take X.length) (X.getD i 0))]) (ty := 72) (by kernel_rfl)]; exact hu) (by simp [Value.oneCell']) (by decide) (by simp only [Try.t72]; omega) (le_maxLen (by omega))) ?_
        intro v32 ob33 hr34
        replace hr34 : Rw 72 1 v32 (i + 1) (((evs X (Y.take X.length) i) ++ [ev7 (Y.take X.length) (X.getD i 0)]).flatMap f7) ob33 := by first | exact hr34 | (rw [List.flatMap_append]; exact hr34)
        refine S_val (v32) (by kernel_rfl) (fun _ _ => by kernel_rfl) ?_
        refine S_nil ?_
        refine E_inblock ?_
        refine E_then ?_
        refine C_region ?_
        refine S_val (.int .i64 ((i : Nat) : Int)) (by kernel_rfl) (fun _ _ => by kernel_rfl) ?_
        refine S_val (.int .i64 ((i + 1 : Nat) : Int)) (by kernel_rfl) (fun _ _ => fv (v := .int .i64 (IntKind.i64.wrap (((i : Nat) : Int) + 1))) (vint (w64 (by omega) (by omega) (by omega))) (by kernel_rfl)) ?_
        refine S_val (.int .i64 ((i + 1 : Nat) : Int)) (by kernel_rfl) (fun _ _ => by kernel_rfl) ?_
        refine S_nil ?_
        exact E_norm (fun w hw => ⟨i + 1, v32, ob33, ⟨by omega, by rw [evs_succ]; exact hr34⟩, (by kernel_rfl), (by (try dsimp only); omega), hw.tail⟩)
      · replace hc := of_decide_eq_false hc
        obtain rfl : i = X.length := by omega
        refine C_exit ?_
        refine E_pass_exit ?_
        refine E_pass_exit ?_
        refine E_outblock ?_
        refine E_then ?_
        refine C_seq ?_
        refine C_region ?_
        refine S_val (.slice ao4 X.length cap5) (by kernel_rfl) (fun _ _ => by kernel_rfl) ?_
        refine S_val (.slice aoA X.length capA) (by kernel_rfl) (fun _ _ => by kernel_rfl) ?_
        refine S_gives (mk := fun v0 => .tuple #[v0, .int .i64 0]) (by kernel_rfl) (fun _ _ => by kernel_rfl) (fun w hO => (c_interp_on w (.slice ao4 X.length cap5) (.slice aoA X.length capA) X (evs X (Y.take X.length) X.length) (Rw.rd' f7_len rfl hr3 hO (((((List.sublist_append_right (([] : List B)) ob2).trans (List.sublist_append_left (([] : List B) ++ ob2) ob)).trans (List.sublist_append_left (([] : List B) ++ ob2 ++ ob) ob20)).trans (List.sublist_append_left (([] : List B) ++ ob2 ++ ob ++ ob20) oba)))) (Rw.rd' f7_len (evs_length _ _ _) hra hO ((List.sublist_append_right (([] : List B) ++ ob2 ++ ob ++ ob20) oba))) (evs_length _ _ _) (by omega) h0 hnd)) ?_
        intro v35 ob36 hr37
        obtain ⟨ao38, cap39, rfl⟩ := hr37.len
        refine S_val (.tuple #[.slice ao38 X.length cap39, .int .i64 0]) (by kernel_rfl) (fun _ _ => by kernel_rfl) ?_
        refine S_val (.slice ao38 X.length cap39) (by kernel_rfl) (fun _ _ => by kernel_rfl) ?_
        refine S_val (.int .i64 0) (by kernel_rfl) (fun _ _ => by kernel_rfl) ?_
        refine S_val (.slice ao38 X.length cap39) (by kernel_rfl) (fun _ _ => by kernel_rfl) ?_
        refine S_val (.int .i64 0) (by kernel_rfl) (fun _ _ => by kernel_rfl) ?_
        refine S_nil ?_
        refine E_then ?_
        refine C_seq ?_
        refine C_seq ?_
        refine C_region ?_
        refine S_val (.int .i64 0) (by kernel_rfl) (fun _ _ => by kernel_rfl) ?_
        refine S_val (.bool false) (by kernel_rfl) (fun _ _ => by kernel_rfl) ?_
        refine S_val (.bool false) (by kernel_rfl) (fun _ _ => by kernel_rfl) ?_
        refine S_val (.slice ao38 X.length cap39) (by kernel_rfl) (fun _ _ => by kernel_rfl) ?_
        refine S_val (.int .i64 ((X.length : Nat) : Int)) (by kernel_rfl) (fun _ _ => by kernel_rfl) ?_
        refine S_val (.slice aoY X.length capY) (by kernel_rfl) (fun _ _ => by kernel_rfl) ?_
        refine S_val (.int .i64 ((X.length : Nat) : Int)) (by kernel_rfl) (fun _ _ => by kernel_rfl) ?_
        refine S_val (.bool false) (by kernel_rfl) (fun _ _ => fv (v := .bool (((X.length : Nat) : Int) != ((X.length : Nat) : Int))) (vbool (bne_eq_false_iff_eq.2 (by omega))) (by kernel_rfl)) ?_
        refine S_val (.bool false) (by kernel_rfl) (fun _ _ => by kernel_rfl) ?_
        refine S_nil ?_
        refine E_then ?_
        refine C_false (by kernel_rfl) ?_
        refine C_skip ?_
        refine E_then ?_
        refine C_seq ?_
        refine C_seq ?_
        refine C_region ?_
        refine S_val (.int .i64 0) (by kernel_rfl) (fun _ _ => by kernel_rfl) ?_
        refine S_nil ?_
        refine E_then ?_
        refine C_block ?_
        refine C_loop1 (fun (i : Nat) => (i ≤ X.length)) (fun (i : Nat) => fun g => ⟨#[g 0, g 1, g 2, g 3, g 4, g 5, .slice aoY X.length capY, g 7, g 8, g 9, g 10, g 11, g 12, g 13, .slice ao38 X.length cap39, .int .i64 ((i : Nat) : Int), g 16, g 17, g 18, g 19, g 20, g 21, g 22, g 23, g 24, g 25, g 26, g 27, g 28, g 29, g 30, g 31, g 32, g 33, g 34, g 35, g 36, g 37, g 38, g 39, g 40, g 41, g 42, g 43, g 44, g 45, g 46, g 47, g 48, g 49, g 50, g 51, g 52, g 53, g 54, g 55, g 56, g 57, g 58, g 59, g 60, g 61, g 62, g 63, g 64, g 65, g 66, g 67, g 68, g 69, g 70, g 71, g 72, g 73, g 74, g 75, g 76, g 77, g 78, g 79, g 80, g 81, g 82, g 83, g 84, g 85, g 86, g 87, g 88, g 89, g 90, g 91, g 92, g 93, g 94, g 95, g 96, g 97, g 98, g 99, g 100, g 101, g 102, g 103, g 104, g 105, g 106, g 107, g 108, g 109, g 110, g 111, g 112, g 113, g 114, g 115, g 116, g 117, g 118, g 119, g 120, g 121, g 122, g 123, g 124, g 125, g 126, g 127, g 128, g 129, g 130, g 131, g 132, g 133, g 134, g 135, g 136, g 137, g 138, g 139, g 140, g 141, g 142, g 143, g 144], []⟩) (fun (i : Nat) => [] ++ ob2 ++ ob ++ ob20 ++ oba ++ ob36) (fun (i : Nat) => X.length - i) 0 (by (try dsimp only); exact Nat.zero_le _) (by kernel_rfl) (by first | (dsimp only; done) | ((try dsimp only); kernel_rfl)) ?_
        rintro i g40 hi
        refine C_seq ?_
        refine C_seq ?_
        refine C_region ?_
        refine S_val (.int .i64 ((i : Nat) : Int)) (by kernel_rfl) (fun _ _ => by kernel_rfl) ?_
        refine S_val (.slice ao38 X.length cap39) (by kernel_rfl) (fun _ _ => by kernel_rfl) ?_
        refine S_val (.int .i64 ((X.length : Nat) : Int)) (by kernel_rfl) (fun _ _ => by kernel_rfl) ?_
        refine S_val (.bool (decide (((i : Nat) : Int) < ((X.length : Nat) : Int)))) (by kernel_rfl) (fun _ _ => by kernel_rfl) ?_
        refine S_nil ?_
        refine E_then ?_
        refine C_if (decide (((i : Nat) : Int) < ((X.length : Nat) : Int))) (by kernel_rfl) (fun hc => ?_) (fun hc => ?_)
        · replace hc := of_decide_eq_true hc
          obtain ⟨g41, cap42, sp43, eg41, _⟩ := Rw.op' (ipo_length _ _ _) hr37 (by omega)
          cases eg41
          obtain ⟨g44, cap45, sp46, eg44, _⟩ := Rw.op' rfl hrY (by omega)
          cases eg44
          refine C_skip ?_
          refine E_then ?_
          refine C_seq ?_
          refine C_block ?_
          refine C_seq ?_
          refine C_drawn [.pure, .pure, .pure, .held, .held, .pure, .pure, .pure, .held, .held, .pure] (by kernel_rfl) (by kernel_rfl) ?_
          refine D_val (.slice (some ⟨g41, 0, none⟩) X.length cap39) (by kernel_rfl) (fun _ => by kernel_rfl) ?_
          refine D_val (.int .i64 ((i : Nat) : Int)) (by kernel_rfl) (fun _ => by kernel_rfl) ?_
          refine D_val (.pointer (some ⟨g41, 0 + i * 1, none⟩)) (by kernel_rfl) (ixS (k := .i64) g41 0 X.length cap39 1 i rfl (by kernel_rfl) (by kernel_rfl) Try.underlying69 Try.sizeOf72 (by omega)) ?_
          refine D_held (.agg #[.int .i64 ((ipo X (evs X (Y.take X.length) X.length) X.length).getD i 0)]) (by kernel_rfl) (ldW f7_len 0 i g41 0 (0 + i * 1) (fun w hO => Rd.rdB (cap := cap39) (len := X.length) (Rw.rd' f7_len (ipo_length _ _ _) hr37 hO ((List.sublist_append_right (([] : List B) ++ ob2 ++ ob ++ ob20 ++ oba) ob36)))) rfl (by kernel_rfl) rfl (by rw [ipo_length]; omega) Try.isAgg72 Try.sizeOf72) ?_
          refine D_pure (v := .int .i64 (((ipo X (evs X (Y.take X.length) X.length) X.length).getD i 0) % 7)) (by kernel_rfl) (c_r ((ipo X (evs X (Y.take X.length) X.length) X.length).getD i 0)) (fun _ => by kernel_rfl) ?_
          refine D_val (.slice (some ⟨g44, 0, none⟩) X.length capY) (by kernel_rfl) (fun _ => by kernel_rfl) ?_
          refine D_val (.int .i64 ((i : Nat) : Int)) (by kernel_rfl) (fun _ => by kernel_rfl) ?_
          refine D_val (.pointer (some ⟨g44, 0 + i * 1, none⟩)) (by kernel_rfl) (ixS (k := .i64) g44 0 X.length capY 1 i rfl (by kernel_rfl) (by kernel_rfl) Try.underlying69 Try.sizeOf72 (by omega)) ?_
          refine D_held (.agg #[.int .i64 (Y.getD i 0)]) (by kernel_rfl) (ldW f7_len 0 i g44 0 (0 + i * 1) (fun w hO => Rd.rdB (cap := capY) (len := Y.length) (Rw.rd' f7_len rfl hrY hO (((((List.sublist_append_right (([] : List B) ++ ob2) ob).trans (List.sublist_append_left (([] : List B) ++ ob2 ++ ob) ob20)).trans (List.sublist_append_left (([] : List B) ++ ob2 ++ ob ++ ob20) oba)).trans (List.sublist_append_left (([] : List B) ++ ob2 ++ ob ++ ob20 ++ oba) ob36))))) rfl (by kernel_rfl) rfl (by omega) Try.isAgg72 Try.sizeOf72) ?_
          refine D_pure (v := .int .i64 ((Y.getD i 0) % 7)) (by kernel_rfl) (c_r (Y.getD i 0)) (fun _ => by kernel_rfl) ?_
          refine D_val (.bool ((((ipo X (evs X (Y.take X.length) X.length) X.length).getD i 0) % 7) != ((Y.getD i 0) % 7))) (by kernel_rfl) (fun _ => by kernel_rfl) ?_
          refine D_nil ?_
          refine E_then ?_
          refine C_falseb (t := (((ipo X (evs X (Y.take X.length) X.length) X.length).getD i 0) % 7) != ((Y.getD i 0) % 7)) (by kernel_rfl) (bne_eq_false_iff_eq.2 ((field2 (Y := (Y.take X.length)) h0 (by simp; omega) hnd i (by omega)).trans (by rw [List.getD_eq_getElem?_getD, List.getElem?_take, if_pos (by omega), ← List.getD_eq_getElem?_getD]))) ?_
          refine C_skip ?_
          refine E_inblock ?_
          refine E_then ?_
          refine C_region ?_
          refine S_val (.int .i64 ((i : Nat) : Int)) (by kernel_rfl) (fun _ _ => by kernel_rfl) ?_
          refine S_val (.int .i64 ((i + 1 : Nat) : Int)) (by kernel_rfl) (fun _ _ => fv (v := .int .i64 (IntKind.i64.wrap (((i : Nat) : Int) + 1))) (vint (w64 (by omega) (by omega) (by omega))) (by kernel_rfl)) ?_
          refine S_val (.int .i64 ((i + 1 : Nat) : Int)) (by kernel_rfl) (fun _ _ => by kernel_rfl) ?_
          refine S_nil ?_
          exact E_norm (fun w hw => ⟨i + 1, by omega, (by kernel_rfl), (by (try dsimp only); omega), hw⟩)
        · replace hc := of_decide_eq_false hc
          refine C_exit ?_
          refine E_pass_exit ?_
          refine E_pass_exit ?_
          refine E_outblock ?_
          refine E_then ?_
          refine C_seq ?_
          refine C_region ?_
          refine S_val (.bool true) (by kernel_rfl) (fun _ _ => by kernel_rfl) ?_
          refine S_nil ?_
          refine E_then ?_
          refine C_ret ?_
          exact pure_ret rfl (res1 Try.results10 (by kernel_rfl))
end Go.Vk
