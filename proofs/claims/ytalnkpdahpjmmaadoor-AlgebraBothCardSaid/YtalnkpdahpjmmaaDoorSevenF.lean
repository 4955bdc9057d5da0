/- What functions of the program do: walks, printed by a program of my own. -/
import Derived.Test.YtalnkpdahpjmmaaDoorSevenS
set_option linter.unusedVariables false
set_option linter.unusedSimpArgs false
namespace Go.Vk
open Go Go.RowKit Go.Proofs
theorem c_solve (w0 : World) (vr vt : Value) (A : List (List Int)) (b : List Int) (n : Nat) (hn : n ≤ 1000) (hAn : A.length = n) (hA : ∀ i, i < n → (A.getD i []).length = n) (hbn : b.length = n) (hr : RdM w0 vr A) (hb : Rd w0 vt 1 f7 b) :
    Calls Tryd.prog 27 #[vr, vt] w0 fun e w' =>
      (∃ x : { x : List (List Int) × Value × List B // GJ n (mag A b n) n x.1 ∧ Rw 68 1 x.2.1 n ((lastc n x.1 n).flatMap f7) x.2.2 }, e = .returned (.tuple #[x.1.2.1, .int .i64 0]) ∧ Own w0 x.1.2.2 w') ∨
      (∃ x : { x : Nat × List (List Int) // GJ n (mag A b n) x.1 x.2 ∧ x.1 < n ∧ ∀ q, x.1 ≤ q → q < n → en x.2 q x.1 % 7 = 0 }, e = .returned (.tuple #[.slice none 0 0, .int .i64 61]) ∧ Own w0 [] w') := by
  obtain ⟨vs, hvl, hvr, hvi⟩ := hr
  obtain ⟨ao, cap, e1, hx⟩ := hvr.o
  obtain ⟨ao2, cap2, e2, hy⟩ := hb.o
  rw [hvl, hAn] at e1
  rw [hbn] at e2
  subst e1 e2
  refine calls_startD Tryd.func27 rfl ?_
  refine C_seq ?_
  refine C_region ?_
  refine S_newv (fun nb0 => .pointer (some ⟨nb0, 0, none⟩)) [.slice none 0 0] 64 (by kernel_rfl) (fun w _ => by kernel_rfl) ?_
  intro b1 hb1 Hb1
  refine S_newv (fun nb0 => .pointer (some ⟨nb0, 0, none⟩)) [.int .i64 0] 55 (by kernel_rfl) (fun w _ => by kernel_rfl) ?_
  intro b2 hb2 Hb2
  refine S_nil ?_
  refine E_then ?_
  refine C_seq ?_
  refine C_region ?_
  refine S_val (.slice ao2 n cap2) (by kernel_rfl) (fun _ _ => by kernel_rfl) ?_
  refine S_val (.int .i64 ((n : Nat) : Int)) (by kernel_rfl) (fun _ _ => by kernel_rfl) ?_
  refine S_val (.int .i64 ((n : Nat) : Int)) (by kernel_rfl) (fun _ _ => by kernel_rfl) ?_
  refine S_nil ?_
  refine E_then ?_
  refine C_seq ?_
  refine C_seq ?_
  refine C_region ?_
  refine S_val (.slice ao n cap) (by kernel_rfl) (fun _ _ => by kernel_rfl) ?_
  refine S_val (.int .i64 ((n : Nat) : Int)) (by kernel_rfl) (fun _ _ => by kernel_rfl) ?_
  refine S_val (.int .i64 ((n : Nat) : Int)) (by kernel_rfl) (fun _ _ => by kernel_rfl) ?_
  refine S_val (.bool false) (by kernel_rfl) (fun _ _ => fv (v := .bool (((n : Nat) : Int) != ((n : Nat) : Int))) (vbool (bne_eq_false_iff_eq.2 (by omega))) (by kernel_rfl)) ?_
  refine S_nil ?_
  refine E_then ?_
  refine C_false (by kernel_rfl) ?_
  refine C_skip ?_
  refine E_then ?_
  refine C_seq ?_
  refine C_region ?_
  refine S_val (.int .i64 ((n : Nat) : Int)) (by kernel_rfl) (fun _ _ => by kernel_rfl) ?_
  refine S_newv (fun nb0 => .slice (some ⟨nb0, 0, none⟩) n n) ((List.replicate n none).flatMap (fo' (n + 1))) 64 (by kernel_rfl) (mk (kl := .i64) (kc := .i64) (z := .slice none 0 0) (i := Tryd.t64) n n Tryd.underlying69 (by kernel_rfl) (by kernel_rfl) rfl (by kernel_rfl) (by kernel_rfl) (by omega) (by simp only [Tryd.t64]; omega) (by omega) ((List.replicate n none).flatMap (fo' (n + 1))) (madeF (f := (fo' (n + 1))) (d := none) n rfl)) ?_
  intro b3 hb3 Hb3
  refine S_val (.slice (some ⟨b3, 0, none⟩) n n) (by kernel_rfl) (fun _ _ => by kernel_rfl) ?_
  refine S_nil ?_
  refine E_then ?_
  refine C_seq ?_
  refine C_seq ?_
  refine C_region ?_
  refine S_val (.slice ao n cap) (by kernel_rfl) (fun _ _ => by kernel_rfl) ?_
  refine S_val (.int .i64 ((n : Nat) : Int)) (by kernel_rfl) (fun _ _ => by kernel_rfl) ?_
  refine S_val (.int .i64 0) (by kernel_rfl) (fun _ _ => by kernel_rfl) ?_
  refine S_nil ?_
  refine E_then ?_
  refine C_block ?_
  refine C_loop2 (fun (i : Nat) (ids : List Nat) => (i ≤ n) ∧ (ids.length = i)) (fun (i : Nat) (ids : List Nat) => fun g => ⟨#[g 0, .slice ao2 n cap2, g 2, g 3, .pointer (some ⟨b1, 0, none⟩), .pointer (some ⟨b2, 0, none⟩), .int .i64 ((n : Nat) : Int), .slice (some ⟨b3, 0, none⟩) n n, g 8, g 9, g 10, g 11, g 12, g 13, g 14, g 15, g 16, g 17, g 18, g 19, g 20, .slice ao n cap, .int .i64 ((n : Nat) : Int), .int .i64 ((i : Nat) : Int), g 24, g 25, g 26, g 27, g 28, g 29, g 30, g 31, g 32, g 33, g 34, g 35, g 36, g 37, g 38, g 39, g 40, g 41, g 42, g 43, g 44, g 45, g 46, g 47, g 48, g 49, g 50, g 51, g 52, g 53, g 54, g 55, g 56, g 57, g 58, g 59, g 60, g 61, g 62, g 63, g 64, g 65, g 66, g 67, g 68, g 69, g 70], []⟩) (fun (i : Nat) (ids : List Nat) => [⟨b3, ((ofs n ids).flatMap (fo' (n + 1))), 64⟩, ⟨b2, [.int .i64 0], 55⟩, ⟨b1, [.slice none 0 0], 64⟩] ++ mat ids (mag A b i) ++ []) (fun (i : Nat) (ids : List Nat) => n - i) 0 [] (by (try dsimp only); exact ⟨Nat.zero_le _, rfl⟩) (by kernel_rfl) (by first | (dsimp only; done) | ((try dsimp only); simp [ofs, mat, mag])) ?_
  rintro i ids g4 ⟨hi, hid⟩
  refine C_seq ?_
  refine C_region ?_
  refine S_val (.bool (decide (((i : Nat) : Int) < ((n : Nat) : Int)))) (by kernel_rfl) (fun _ _ => by kernel_rfl) ?_
  refine S_nil ?_
  refine E_then ?_
  refine C_seq ?_
  refine C_if (decide (((i : Nat) : Int) < ((n : Nat) : Int))) (by kernel_rfl) (fun hc => ?_) (fun hc => ?_)
  · replace hc := of_decide_eq_true hc
    obtain ⟨bi5, oi6, rfl, hi7⟩ := hx.op (by omega)
    obtain ⟨bi8, oi9, rfl, hi10⟩ := hy.op (by omega)
    have hrow := hvi i (by omega)
    obtain ⟨ai, capi, ei, hia⟩ := hrow.o
    rw [hA i (by omega)] at ei
    obtain ⟨bi, oi, rfl, hri⟩ := hia.op (by rw [hA i (by omega)]; omega)
    refine C_skip ?_
    refine E_then ?_
    refine C_seq ?_
    refine C_block ?_
    refine C_seq ?_
    refine C_region ?_
    refine S_val (.int .i64 ((i : Nat) : Int)) (by kernel_rfl) (fun _ _ => by kernel_rfl) ?_
    refine S_val (.pointer (some ⟨bi5, oi6 + i * 1, none⟩)) (by kernel_rfl) (fun w _ => (ixS (k := .i64) bi5 oi6 n cap 1 i rfl (by kernel_rfl) (by kernel_rfl) Tryd.underlying69 Tryd.sizeOf64 (by omega)) w) ?_
    refine S_val (.slice (some ⟨bi, oi, none⟩) n capi) (by kernel_rfl) (fun w hO => fv (v := vs.getD i undef) ei (ldR1 (v := vs.getD i undef) undef i 0 bi5 oi6 (oi6 + i * 1) hi7 rfl (by kernel_rfl) rfl (by omega) rfl Tryd.isAgg64 w hO)) ?_
    refine S_val (.int .i64 ((i : Nat) : Int)) (by kernel_rfl) (fun _ _ => by kernel_rfl) ?_
    refine S_val (.slice (some ⟨bi, oi, none⟩) n capi) (by kernel_rfl) (fun _ _ => by kernel_rfl) ?_
    refine S_nil ?_
    refine E_then ?_
    refine C_seq ?_
    refine C_seq ?_
    refine C_region ?_
    refine S_val (.slice (some ⟨bi, oi, none⟩) n capi) (by kernel_rfl) (fun _ _ => by kernel_rfl) ?_
    refine S_val (.int .i64 ((n : Nat) : Int)) (by kernel_rfl) (fun _ _ => by kernel_rfl) ?_
    refine S_val (.int .i64 ((n : Nat) : Int)) (by kernel_rfl) (fun _ _ => by kernel_rfl) ?_
    refine S_val (.bool false) (by kernel_rfl) (fun _ _ => fv (v := .bool (((n : Nat) : Int) != ((n : Nat) : Int))) (vbool (bne_eq_false_iff_eq.2 (by omega))) (by kernel_rfl)) ?_
    refine S_nil ?_
    refine E_then ?_
    refine C_false (by kernel_rfl) ?_
    refine C_skip ?_
    refine E_then ?_
    refine C_drawn [.pure, .pure, .pure, .pure, .new, .pure, .fr, .pure, .pure, .pure, .pure, .new, .eff, .pure, .eff] (by kernel_rfl) (by kernel_rfl) ?_
    refine D_val (.slice (some ⟨b3, 0, none⟩) n n) (by kernel_rfl) (fun _ => by kernel_rfl) ?_
    refine D_val (.int .i64 ((i : Nat) : Int)) (by kernel_rfl) (fun _ => by kernel_rfl) ?_
    refine D_val (.int .i64 ((n : Nat) : Int)) (by kernel_rfl) (fun _ => by kernel_rfl) ?_
    refine D_val (.int .i64 ((n + 1 : Nat) : Int)) (by kernel_rfl) (fun _ => fv (v := .int .i64 (IntKind.i64.wrap (((n : Nat) : Int) + 1))) (vint (w64 (by omega) (by omega) (by omega))) (by kernel_rfl)) ?_
    refine D_fresh (fun nb0 => .slice (some ⟨nb0, 0, none⟩) 0 (n + 1)) ((List.replicate (n + 1) 0).flatMap f7) 68 (by kernel_rfl) (mk (kl := .i64) (kc := .i64) (z := .agg #[.int .i64 0]) (i := Tryd.t68) 0 (n + 1) Tryd.underlying64 (by kernel_rfl) (by kernel_rfl) rfl (by kernel_rfl) (by kernel_rfl) (by omega) (by simp only [Tryd.t68]; omega) (by omega) ((List.replicate (n + 1) 0).flatMap f7) (madeF (f := f7) (d := 0) (n + 1) rfl)) ?_
    intro b11 hb11 Hb11
    refine D_val (.slice (some ⟨bi, oi, none⟩) n capi) (by kernel_rfl) (fun _ => by kernel_rfl) ?_
    refine D_frame (L' := [⟨b11, ((A.getD i [] ++ [0]).flatMap f7), 68⟩, ⟨b3, ((ofs n ids).flatMap (fo' (n + 1))), 64⟩, ⟨b2, [.int .i64 0], 55⟩, ⟨b1, [.slice none 0 0], 64⟩] ++ mat ids (mag A b i) ++ []) (.slice (some ⟨b11, 0, none⟩) n (n + 1)) (by kernel_rfl) (by kernel_rfl) (fun X => (ap_room (f := f7) (L' := X ++ ([⟨b11, ((A.getD i [] ++ [0]).flatMap f7), 68⟩, ⟨b3, ((ofs n ids).flatMap (fo' (n + 1))), 64⟩, ⟨b2, [.int .i64 0], 55⟩, ⟨b1, [.slice none 0 0], 64⟩] ++ mat ids (mag A b i) ++ [])) f7_len f7_one 64 68 Tryd.t68 Tryd.underlying64 (by kernel_rfl) rfl rfl b11 0 n (n + 1) (X.length + 0) (List.replicate (n + 1) 0) (A.getD i []) (by rw [List.getElem?_append_right (by omega), Nat.add_sub_cancel_left]; kernel_rfl) (by simp) ⟨bi, oi, none⟩ n capi (by kernel_rfl) (by kernel_rfl) (hA i (by omega)) (RdB.news f7_len hri) (by omega) (by omega) (by rw [room1, List.set_append_right _ _ (by omega), Nat.add_sub_cancel_left]; kernel_rfl))) ?_
    refine D_val (.slice (some ⟨bi8, oi9, none⟩) n cap2) (by kernel_rfl) (fun _ => by kernel_rfl) ?_
    refine D_val (.int .i64 ((i : Nat) : Int)) (by kernel_rfl) (fun _ => by kernel_rfl) ?_
    refine D_val (.pointer (some ⟨bi8, oi9 + i * 1, none⟩)) (by kernel_rfl) (ixS (k := .i64) bi8 oi9 n cap2 1 i rfl (by kernel_rfl) (by kernel_rfl) Tryd.underlying64 Tryd.sizeOf68 (by omega)) ?_
    refine D_old (.agg #[.int .i64 (b.getD i 0)]) (by kernel_rfl) (ldR f7_len 0 i bi8 oi9 (oi9 + i * 1) hi10 rfl (by kernel_rfl) rfl (by omega) Tryd.isAgg68 Tryd.sizeOf68) ?_
    refine D_fresh (fun nb0 => .slice (some ⟨nb0, 0, none⟩) 1 1) [.int .i64 (b.getD i 0)] 68 (by kernel_rfl) (fun w _ => by kernel_rfl) ?_
    intro b12 hb12 Hb12
    refine D_turn (.slice (some ⟨b11, 0, none⟩) (n + 1) (n + 1)) (by kernel_rfl) (ap_room (f := f7) (L' := [⟨b12, [.int .i64 (b.getD i 0)], 68⟩, ⟨b11, ((A.getD i [] ++ [b.getD i 0]).flatMap f7), 68⟩, ⟨b3, ((ofs n ids).flatMap (fo' (n + 1))), 64⟩, ⟨b2, [.int .i64 0], 55⟩, ⟨b1, [.slice none 0 0], 64⟩] ++ mat ids (mag A b i) ++ []) f7_len f7_one 64 68 Tryd.t68 Tryd.underlying64 (by kernel_rfl) rfl rfl b11 n (n + 1) (n + 1) 1 (A.getD i [] ++ [0]) ([b.getD i 0]) (by kernel_rfl) (by rw [List.length_append, hA i (by omega)]; rfl) ⟨b12, 0, none⟩ 1 1 (by kernel_rfl) (by kernel_rfl) rfl (fun w hO j9 u9 hu => by rw [add_none, Nat.zero_add, hO.cellAt 0 (b := b12) (cs := [.int .i64 (b.getD i 0)]) (ty := 68) (by kernel_rfl)]; exact hu) (by omega) (by omega) (by rw [room2 _ (hA i (by omega))]; kernel_rfl)) ?_
    refine D_val (.pointer (some ⟨b3, 0 + i * 1, none⟩)) (by kernel_rfl) (ixS (k := .i64) b3 0 n n 1 i rfl (by kernel_rfl) (by kernel_rfl) Tryd.underlying69 Tryd.sizeOf64 (by omega)) ?_
    refine D_do (by kernel_rfl) (stF1 (f := (fo' (n + 1))) (L' := [⟨b12, [.int .i64 (b.getD i 0)], 68⟩, ⟨b11, ((A.getD i [] ++ [b.getD i 0]).flatMap f7), 68⟩, ⟨b3, (((ofs n ids).set i (some b11)).flatMap (fo' (n + 1))), 64⟩, ⟨b2, [.int .i64 0], 55⟩, ⟨b1, [.slice none 0 0], 64⟩] ++ mat ids (mag A b i) ++ []) (fo'_len (n + 1)) rfl (ofs n ids) (some b11) i (0 + i * 1) 2 b3 64 rfl (by kernel_rfl) (by kernel_rfl) rfl (by omega) (by rw [ofs_length (by omega)]; omega) Tryd.sizeOf64 (by kernel_rfl) (by kernel_rfl)) ?_
    refine D_nil ?_
    refine E_inblock ?_
    refine E_then ?_
    refine C_region ?_
    refine S_val (.int .i64 ((i + 1 : Nat) : Int)) (by kernel_rfl) (fun _ _ => fv (v := .int .i64 (IntKind.i64.wrap (((i : Nat) : Int) + 1))) (vint (w64 (by omega) (by omega) (by omega))) (by kernel_rfl)) ?_
    refine S_val (.int .i64 ((i + 1 : Nat) : Int)) (by kernel_rfl) (fun _ _ => by kernel_rfl) ?_
    refine S_nil ?_
    exact E_norm (fun w hw => ⟨i + 1, ids ++ [b11], ⟨by omega, by simp; omega⟩, (by kernel_rfl), (by (try dsimp only); omega), (own_snoc [⟨b3, (((ofs n ids).set i (some b11)).flatMap (fo' (n + 1))), 64⟩, ⟨b2, [.int .i64 0], 55⟩, ⟨b1, [.slice none 0 0], 64⟩] (hid.trans (mag_length A b i).symm) hw.tail).eq (by subst hid; (try dsimp only); rw [ofs_set _ (by omega)]; rfl)⟩)
  · replace hc := of_decide_eq_false hc
    obtain rfl : n = i := by omega
    refine C_weak (L' := [⟨b3, (ids.flatMap (fo (n + 1))), 64⟩, ⟨b2, [.int .i64 0], 55⟩, ⟨b1, [.slice none 0 0], 64⟩] ++ mat ids (mag A b n) ++ []) (fun w hw => by rw [ofs_full hid] at hw; exact hw) ?_
    refine C_exit ?_
    refine E_pass_exit ?_
    refine E_pass_exit ?_
    refine E_outblock ?_
    refine E_then ?_
    refine C_seq ?_
    refine C_region ?_
    refine S_val (.func (.func 49) #[] #[.pointer (some ⟨b1, 0, none⟩), .pointer (some ⟨b2, 0, none⟩)]) (by kernel_rfl) (fun _ _ => by kernel_rfl) ?_
    refine S_defer ({ target := .fn (.func 49) #[.pointer (some ⟨b1, 0, none⟩), .pointer (some ⟨b2, 0, none⟩)], args := #[] }) (by kernel_rfl) (fun _ _ => by kernel_rfl) ?_
    refine S_nil ?_
    refine E_then ?_
    refine C_seq ?_
    refine C_seq ?_
    refine C_region ?_
    refine S_val (.int .i64 ((n : Nat) : Int)) (by kernel_rfl) (fun _ _ => by kernel_rfl) ?_
    refine S_val (.int .i64 0) (by kernel_rfl) (fun _ _ => by kernel_rfl) ?_
    refine S_nil ?_
    refine E_then ?_
    refine C_block ?_
    refine C_loop3 (fun (k : Nat) (js : List Nat) (R : List (List Int)) => (k ≤ n) ∧ (js.length = n) ∧ (GJ n (mag A b n) k R)) (fun (k : Nat) (js : List Nat) (R : List (List Int)) => fun g => ⟨#[g 0, g 1, g 2, g 3, .pointer (some ⟨b1, 0, none⟩), .pointer (some ⟨b2, 0, none⟩), .int .i64 ((n : Nat) : Int), .slice (some ⟨b3, 0, none⟩) n n, g 8, g 9, g 10, g 11, g 12, g 13, g 14, g 15, g 16, g 17, g 18, g 19, g 20, g 21, g 22, g 23, g 24, g 25, g 26, g 27, g 28, g 29, g 30, g 31, g 32, g 33, g 34, g 35, g 36, g 37, g 38, g 39, g 40, g 41, g 42, g 43, g 44, g 45, g 46, g 47, .int .i64 ((n : Nat) : Int), .int .i64 ((k : Nat) : Int), g 50, g 51, g 52, g 53, g 54, g 55, g 56, g 57, g 58, g 59, g 60, g 61, g 62, g 63, g 64, g 65, g 66, g 67, g 68, g 69, g 70], [{ target := .fn (.func 49) #[.pointer (some ⟨b1, 0, none⟩), .pointer (some ⟨b2, 0, none⟩)], args := #[] }]⟩) (fun (k : Nat) (js : List Nat) (R : List (List Int)) => [⟨b3, (js.flatMap (fo (n + 1))), 64⟩, ⟨b2, [.int .i64 0], 55⟩, ⟨b1, [.slice none 0 0], 64⟩] ++ mat js R ++ []) (fun (k : Nat) (js : List Nat) (R : List (List Int)) => n - k) 0 ids (mag A b n) (by (try dsimp only); exact ⟨Nat.zero_le _, hid, .zero⟩) (by kernel_rfl) (by first | (dsimp only; done) | ((try dsimp only); kernel_rfl)) ?_
    rintro k js R g13 ⟨hk, hjn, hG⟩
    have hRs : Sq n R := hG.sq (mag_sq hA)
    have hjl : js.length = R.length := hjn.trans hRs.1.symm
    refine C_seq ?_
    refine C_region ?_
    refine S_val (.bool (decide (((k : Nat) : Int) < ((n : Nat) : Int)))) (by kernel_rfl) (fun _ _ => by kernel_rfl) ?_
    refine S_nil ?_
    refine E_then ?_
    refine C_seq ?_
    refine C_if (decide (((k : Nat) : Int) < ((n : Nat) : Int))) (by kernel_rfl) (fun hkn => ?_) (fun hkn => ?_)
    · replace hkn := of_decide_eq_true hkn
      replace hkn : k < n := by omega
      refine C_skip ?_
      refine E_then ?_
      refine C_seq ?_
      refine C_block ?_
      refine C_seq ?_
      refine C_region ?_
      refine S_val (.int .i64 ((k : Nat) : Int)) (by kernel_rfl) (fun _ _ => by kernel_rfl) ?_
      refine S_val (.int .i64 ((k : Nat) : Int)) (by kernel_rfl) (fun _ _ => by kernel_rfl) ?_
      refine S_nil ?_
      refine E_then ?_
      refine C_region ?_
      refine S_val (.slice (some ⟨b3, 0, none⟩) n n) (by kernel_rfl) (fun _ _ => by kernel_rfl) ?_
      refine S_val (.int .i64 ((k : Nat) : Int)) (by kernel_rfl) (fun _ _ => by kernel_rfl) ?_
      refine S_callX (fun _ : { x : Nat × List Nat // k ≤ x.1 ∧ x.1 < n ∧ en R x.1 k % 7 ≠ 0 ∧ x.2.length = n } => .tuple #[]) (fun x => [⟨b3, x.1.2.flatMap (fo (n + 1)), 64⟩, ⟨b2, [.int .i64 0], 55⟩, ⟨b1, [.slice none 0 0], 64⟩] ++ mat x.1.2 (cst n R k x.1.1) ++ []) (fun _ : { _y : Unit // ∀ q, k ≤ q → q < n → en R q k % 7 = 0 } => [{ v := .iface 96 (.agg #[]), recovered := false }]) (fun _ => [⟨b3, (js.flatMap (fo (n + 1))), 64⟩, ⟨b2, [.int .i64 0], 55⟩, ⟨b1, [.slice none 0 0], 64⟩] ++ mat js R ++ []) (by kernel_rfl) (fun _ _ => by kernel_rfl) (fun w hO => c_clear' w0 _ _ b3 n k js R hRs hjl hkn hn w hO) ?_ ?_
      rotate_left
      · rintro ⟨_, hq⟩
        refine E_panicblock ?_
        refine E_pass_panic ?_
        refine E_pass_panic ?_
        refine E_panicblock ?_
        refine E_pass_panic ?_
        exact E_panicD (fun w hw => leave_panic hw (resM (rs := [.cell 4 64, .cell 5 55]) Tryd.results27 [.slice none 0 0, .int .i64 61] (by simp) (fun w hO => (.cell (by kernel_rfl) (resCell1 hO (.slice none 0 0) 2 b1 64 Tryd.isAgg64 (by kernel_rfl)) (.cell (by kernel_rfl) (resCell1 hO (.int .i64 61) 1 b2 55 Tryd.isAgg55 (by kernel_rfl)) .nil)))) (fun w hw => .inr ⟨⟨(k, R), hG, hkn, hq⟩, rfl, hw.nil⟩))
      rintro ⟨⟨p, is⟩, hp1, hp2, hp3, hp4⟩
      refine S_nil ?_
      refine E_inblock ?_
      refine E_then ?_
      refine C_region ?_
      refine S_val (.int .i64 ((k + 1 : Nat) : Int)) (by kernel_rfl) (fun _ _ => fv (v := .int .i64 (IntKind.i64.wrap (((k : Nat) : Int) + 1))) (vint (w64 (by omega) (by omega) (by omega))) (by kernel_rfl)) ?_
      refine S_val (.int .i64 ((k + 1 : Nat) : Int)) (by kernel_rfl) (fun _ _ => by kernel_rfl) ?_
      refine S_nil ?_
      exact E_norm (fun w hw => ⟨k + 1, is, cst n R k p, ⟨by omega, hp4, hG.step hkn hp1 hp2 hp3⟩, (by kernel_rfl), (by (try dsimp only); omega), hw⟩)
    · replace hkn := of_decide_eq_false hkn
      obtain rfl : n = k := by omega
      refine C_exit ?_
      refine E_pass_exit ?_
      refine E_pass_exit ?_
      refine E_outblock ?_
      refine E_then ?_
      refine C_seq ?_
      refine C_seq ?_
      refine C_region ?_
      refine S_val (.slice (some ⟨b3, 0, none⟩) n n) (by kernel_rfl) (fun _ _ => by kernel_rfl) ?_
      refine S_val (.int .i64 ((n : Nat) : Int)) (by kernel_rfl) (fun _ _ => by kernel_rfl) ?_
      refine S_val (.int .i64 0) (by kernel_rfl) (fun _ _ => by kernel_rfl) ?_
      refine S_nil ?_
      refine E_then ?_
      refine C_block ?_
      refine C_loop3 (fun (j : Nat) (v : Value) (ob : List B) => (j ≤ n) ∧ (Rw 68 1 v j ((lastc n R j).flatMap f7) ob)) (fun (j : Nat) (v : Value) (ob : List B) => fun g => ⟨#[g 0, g 1, g 2, g 3, .pointer (some ⟨b1, 0, none⟩), .pointer (some ⟨b2, 0, none⟩), .int .i64 ((n : Nat) : Int), g 7, g 8, g 9, g 10, g 11, g 12, g 13, g 14, g 15, g 16, g 17, g 18, g 19, g 20, g 21, g 22, g 23, g 24, g 25, g 26, g 27, g 28, g 29, g 30, g 31, g 32, g 33, g 34, g 35, g 36, g 37, g 38, g 39, g 40, g 41, g 42, g 43, g 44, g 45, g 46, g 47, g 48, g 49, g 50, g 51, g 52, g 53, g 54, g 55, .slice (some ⟨b3, 0, none⟩) n n, .int .i64 ((n : Nat) : Int), .int .i64 ((j : Nat) : Int), g 59, g 60, g 61, g 62, g 63, g 64, g 65, g 66, g 67, g 68, g 69, g 70], [{ target := .fn (.func 49) #[.pointer (some ⟨b1, 0, none⟩), .pointer (some ⟨b2, 0, none⟩)], args := #[] }]⟩) (fun (j : Nat) (v : Value) (ob : List B) => [⟨b3, (js.flatMap (fo (n + 1))), 64⟩, ⟨b2, [.int .i64 0], 55⟩, ⟨b1, [v], 64⟩] ++ mat js R ++ ob) (fun (j : Nat) (v : Value) (ob : List B) => n - j) 0 (.slice none 0 0) [] (by (try dsimp only); exact ⟨Nat.zero_le _, Rw.nil 68 1⟩) (by kernel_rfl) (by first | (dsimp only; done) | ((try dsimp only); kernel_rfl)) ?_
      rintro j v ob g14 ⟨hj, hr⟩
      refine C_seq ?_
      refine C_region ?_
      refine S_val (.bool (decide (((j : Nat) : Int) < ((n : Nat) : Int)))) (by kernel_rfl) (fun _ _ => by kernel_rfl) ?_
      refine S_nil ?_
      refine E_then ?_
      refine C_seq ?_
      refine C_if (decide (((j : Nat) : Int) < ((n : Nat) : Int))) (by kernel_rfl) (fun hc4 => ?_) (fun hc4 => ?_)
      · replace hc4 := of_decide_eq_true hc4
        refine C_skip ?_
        refine E_then ?_
        refine C_seq ?_
        refine C_block ?_
        refine C_seq ?_
        refine C_region ?_
        refine S_val (.pointer (some ⟨b3, 0 + j * 1, none⟩)) (by kernel_rfl) (fun w _ => (ixS (k := .i64) b3 0 n n 1 j rfl (by kernel_rfl) (by kernel_rfl) Tryd.underlying69 Tryd.sizeOf64 (by omega)) w) ?_
        refine S_val (.slice (some ⟨js.getD j 0, 0, none⟩) (n + 1) (n + 1)) (by kernel_rfl) (ldF1 (v := .slice (some ⟨js.getD j 0, 0, none⟩) (n + 1) (n + 1)) (fo_len (n + 1)) js 0 j (0 + j * 1) 0 b3 64 rfl (by kernel_rfl) (by omega) (by omega) rfl Tryd.isAgg64 (by kernel_rfl)) ?_
        refine S_val (.slice (some ⟨js.getD j 0, 0, none⟩) (n + 1) (n + 1)) (by kernel_rfl) (fun _ _ => by kernel_rfl) ?_
        refine S_nil ?_
        refine E_then ?_
        refine C_drawn [.held, .pure, .pure, .pure, .held, .new, .eff, .eff] (by kernel_rfl) (by kernel_rfl) ?_
        refine D_held (v) (by kernel_rfl) (ld1 2 b1 0 [v] 64 rfl (by kernel_rfl) Tryd.isAgg64 (by kernel_rfl) (by kernel_rfl)) ?_
        refine D_val (.slice (some ⟨js.getD j 0, 0, none⟩) (n + 1) (n + 1)) (by kernel_rfl) (fun _ => by kernel_rfl) ?_
        refine D_val (.int .i64 ((n : Nat) : Int)) (by kernel_rfl) (fun _ => by kernel_rfl) ?_
        refine D_val (.pointer (some ⟨js.getD j 0, 0 + n * 1, none⟩)) (by kernel_rfl) (ixS (k := .i64) (js.getD j 0) 0 (n + 1) (n + 1) 1 n rfl (by kernel_rfl) (by kernel_rfl) Tryd.underlying64 Tryd.sizeOf68 (by omega)) ?_
        refine D_held (.agg #[.int .i64 ((R.getD j []).getD n 0)]) (by kernel_rfl) (ldF f7_len (R.getD j []) 0 n (0 + n * 1) (3 + j) (js.getD j 0) 68 rfl (by kernel_rfl) (by omega) (by rw [hRs.2 _ (by omega)]; omega) Tryd.isAgg68 Tryd.sizeOf68 (mat_at [⟨b3, (js.flatMap (fo (n + 1))), 64⟩, ⟨b2, [.int .i64 0], 55⟩, ⟨b1, [v], 64⟩] ob hjl (by rw [hRs.1]; omega))) ?_
        refine D_fresh (fun nb0 => .slice (some ⟨nb0, 0, none⟩) 1 1) [.int .i64 ((R.getD j []).getD n 0)] 68 (by kernel_rfl) (fun w _ => by kernel_rfl) ?_
        intro b15 hb15 Hb15
        refine D_app (sz := 1) (n := j + 1) (xs := ((lastc n R j).flatMap f7) ++ [.int .i64 ((R.getD j []).getD n 0)]) (fun ob' => [⟨b15, [.int .i64 ((R.getD j []).getD n 0)], 68⟩, ⟨b3, (js.flatMap (fo (n + 1))), 64⟩, ⟨b2, [.int .i64 0], 55⟩, ⟨b1, [v], 64⟩] ++ mat js R ++ ob') (Rw.inh (m := 1) hr.1 (by kernel_rfl) (le_maxLen (by omega))) (by intro ob'; simp) (by kernel_rfl) (up_app (L1 := [⟨b15, [.int .i64 ((R.getD j []).getD n 0)], 68⟩, ⟨b3, (js.flatMap (fo (n + 1))), 64⟩, ⟨b2, [.int .i64 0], 55⟩, ⟨b1, [v], 64⟩] ++ mat js R) (ob := ob) (L2 := []) (n := j) (xs := ((lastc n R j).flatMap f7)) 64 68 Tryd.t68 (.agg #[.int .i64 0]) Tryd.underlying64 (by kernel_rfl) (by kernel_rfl) (by kernel_rfl) rfl hr (by simp) ⟨b15, 0, none⟩ 1 1 [.int .i64 ((R.getD j []).getD n 0)] (by kernel_rfl) (by kernel_rfl) (by kernel_rfl) (fun w hO j9 u9 hu => by rw [add_none, Nat.zero_add, hO.cellAt 0 (b := b15) (cs := [.int .i64 ((R.getD j []).getD n 0)]) (ty := 68) (by kernel_rfl)]; exact hu) (by simp [Value.oneCell']) (by decide) (by simp only [Tryd.t68]; omega) (le_maxLen (by omega))) ?_
        intro v16 ob17 hr18
        replace hr18 : Rw 68 1 v16 (j + 1) (((lastc n R j) ++ [(R.getD j []).getD n 0]).flatMap f7) ob17 := by first | exact hr18 | (rw [List.flatMap_append]; exact hr18)
        refine D_do (by kernel_rfl) (st1 (v := v16) (L' := [⟨b15, [.int .i64 ((R.getD j []).getD n 0)], 68⟩, ⟨b3, (js.flatMap (fo (n + 1))), 64⟩, ⟨b2, [.int .i64 0], 55⟩, ⟨b1, [v16], 64⟩] ++ mat js R ++ ob17) 3 b1 0 [v] 64 rfl (by kernel_rfl) (by kernel_rfl) Tryd.sizeOf64 (Rw.one hr18) (by kernel_rfl) (by simp) (by kernel_rfl)) ?_
        refine D_nil ?_
        refine E_inblock ?_
        refine E_then ?_
        refine C_region ?_
        refine S_val (.int .i64 ((j + 1 : Nat) : Int)) (by kernel_rfl) (fun _ _ => fv (v := .int .i64 (IntKind.i64.wrap (((j : Nat) : Int) + 1))) (vint (w64 (by omega) (by omega) (by omega))) (by kernel_rfl)) ?_
        refine S_val (.int .i64 ((j + 1 : Nat) : Int)) (by kernel_rfl) (fun _ _ => by kernel_rfl) ?_
        refine S_nil ?_
        exact E_norm (fun w hw => ⟨j + 1, v16, ob17, ⟨by omega, by rw [lastc_succ]; exact hr18⟩, (by kernel_rfl), (by (try dsimp only); omega), hw.tail⟩)
      · replace hc4 := of_decide_eq_false hc4
        obtain rfl : n = j := by omega
        refine C_exit ?_
        refine E_pass_exit ?_
        refine E_pass_exit ?_
        refine E_outblock ?_
        refine E_then ?_
        refine C_seq ?_
        refine C_region ?_
        refine S_val (v) (by kernel_rfl) (ld1 2 b1 0 [v] 64 rfl (by kernel_rfl) Tryd.isAgg64 (by kernel_rfl) (by kernel_rfl)) ?_
        refine S_do (by kernel_rfl) (st1 (v := v) (L' := [⟨b3, (js.flatMap (fo (n + 1))), 64⟩, ⟨b2, [.int .i64 0], 55⟩, ⟨b1, [v], 64⟩] ++ mat js R ++ ob) 2 b1 0 [v] 64 rfl (by kernel_rfl) (by kernel_rfl) Tryd.sizeOf64 (Rw.one hr) (by kernel_rfl) (by simp) (by kernel_rfl)) ?_
        refine S_do (by kernel_rfl) (st1 (v := .int .i64 0) (L' := [⟨b3, (js.flatMap (fo (n + 1))), 64⟩, ⟨b2, [.int .i64 0], 55⟩, ⟨b1, [v], 64⟩] ++ mat js R ++ ob) 1 b2 0 [.int .i64 0] 55 rfl (by kernel_rfl) (by kernel_rfl) Tryd.sizeOf55 (by rfl) (by kernel_rfl) (by simp) (by kernel_rfl)) ?_
        refine S_nil ?_
        refine E_then ?_
        refine C_ret ?_
        exact E_retD (fun w hw => leave_ok hw (resM (rs := [.cell 4 64, .cell 5 55]) Tryd.results27 [v, .int .i64 0] (by simp) (fun w hO => (.cell (by kernel_rfl) (resCell1 hO (v) 2 b1 64 Tryd.isAgg64 (by kernel_rfl)) (.cell (by kernel_rfl) (resCell1 hO (.int .i64 0) 1 b2 55 Tryd.isAgg55 (by kernel_rfl)) .nil)))) (fun w hw => .inl ⟨⟨(R, v, ob), hG, hr⟩, rfl, hw.sub (List.sublist_append_right _ _)⟩))
end Go.Vk
