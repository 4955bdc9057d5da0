/- What functions of the program do: walks, printed by a program of my own. -/
import Derived.Test.YtalnkpdahpjmmaaDoorSevenF
set_option linter.unusedVariables false
set_option linter.unusedSimpArgs false
namespace Go.Vk
open Go Go.RowKit Go.Proofs
theorem gj1 {k : Nat} {R : List (List Int)} (h : GJ 1 (mag [[3]] [5] 1) k R) : (k = 0 ∧ en R 0 0 % 7 ≠ 0) ∨ (k = 1 ∧ lastc 1 R 1 = [25]) := by
  cases h with
  | zero => exact .inl ⟨rfl, by decide⟩
  | @step k p R h hk hkp hp hne =>
    have hk : k = 0 := by omega
    have hp : p = 0 := by omega
    subst hk hp
    cases h with
    | zero => exact .inr ⟨rfl, by decide⟩
theorem c_solve1 (w0 : World) (vr vt : Value) (hr : RdM w0 vr [[3]]) (hb : Rd w0 vt 1 f7 [5]) : Gives Tryd.prog 27 #[vr, vt] w0 68 1 1 ([25].flatMap f7) (fun v => .tuple #[v, .int .i64 0]) := by
  refine (c_solve w0 vr vt [[3]] [5] 1 (by decide) rfl (fun i hi => by (have : i = 0 := by omega); subst this; rfl) rfl hr hb).mono ?_
  rintro e w' (⟨⟨⟨R, v, ob⟩, hG, hw⟩, rfl, hO⟩ | ⟨⟨⟨k, R⟩, hG, hk, hz⟩, rfl, hO⟩)
  · rcases gj1 hG with ⟨h, _⟩ | ⟨_, h⟩
    · cases h
    · dsimp only at hw; rw [h] at hw; exact ⟨⟨(v, ob), hw⟩, rfl, hO⟩
  · dsimp only at hk hz hG
    rcases gj1 hG with ⟨rfl, h⟩ | ⟨rfl, _⟩
    · exact absurd (hz 0 (Nat.le_refl _) (by decide)) h
    · omega
theorem rdm1 {w0 w : World} {L : List B} (hO : Own w0 L w) (i j b1 b2 : Nat) (O : List Int) (ty ty2 : TypeId) (n : Nat) (hn : O.length = n) (h1 : L[i]? = some ⟨b1, O.flatMap f7, ty⟩) (h2 : L[j]? = some ⟨b2, [.slice (some ⟨b1, 0, none⟩) n n], ty2⟩) : RdM w (.slice (some ⟨b2, 0, none⟩) 1 1) [O] := by
  subst hn
  refine ⟨[.slice (some ⟨b1, 0, none⟩) O.length O.length], rfl, (hO.rdB' (f := fun u => [u]) j (fun _ => rfl) [.slice (some ⟨b1, 0, none⟩) O.length O.length] h2).o.rd 1, fun q hq => ?_⟩
  have : q = 0 := by simp at hq; omega
  subst this
  exact (hO.rdB' i f7_len O h1).o.rd _
theorem c_alive : Pure Tryd.prog 5 #[] (.bool true) := by
  refine pure_of Tryd.func5 rfl (fun w0 => ?_)
  refine C_seq ?_
  refine C_region ?_
  refine S_val (.bool false) (by kernel_rfl) (fun _ _ => by kernel_rfl) ?_
  refine S_nil ?_
  refine E_then ?_
  refine C_seq ?_
  refine C_region ?_
  refine S_val (.agg #[.int .i64 3]) (by kernel_rfl) (fun _ _ => by kernel_rfl) ?_
  refine S_newv (fun nb0 => .slice (some ⟨nb0, 0, none⟩) 1 1) [.int .i64 3] 68 (by kernel_rfl) (fun w _ => by kernel_rfl) ?_
  intro b1 hb1 Hb1
  refine S_newv (fun nb0 => .slice (some ⟨nb0, 0, none⟩) 1 1) [.slice (some ⟨b1, 0, none⟩) 1 1] 64 (by kernel_rfl) (fun w _ => by kernel_rfl) ?_
  intro b2 hb2 Hb2
  refine S_val (.agg #[.int .i64 5]) (by kernel_rfl) (fun _ _ => by kernel_rfl) ?_
  refine S_newv (fun nb0 => .slice (some ⟨nb0, 0, none⟩) 1 1) [.int .i64 5] 68 (by kernel_rfl) (fun w _ => by kernel_rfl) ?_
  intro b3 hb3 Hb3
  refine S_gives (mk := fun v0 => .tuple #[v0, .int .i64 0]) (by kernel_rfl) (fun _ _ => by kernel_rfl) (fun w hO => (c_solve1 w _ _ (rdm1 hO 2 1 b1 b2 [3] 68 64 1 rfl rfl rfl) ((hO.rdB' (f := f7) 0 f7_len [5] rfl).o.rd 1))) ?_
  intro v4 ob5 hr6
  refine S_val (.tuple #[v4, .int .i64 0]) (by kernel_rfl) (fun _ _ => by kernel_rfl) ?_
  refine S_val (v4) (by kernel_rfl) (fun _ _ => by kernel_rfl) ?_
  refine S_val (.int .i64 0) (by kernel_rfl) (fun _ _ => by kernel_rfl) ?_
  refine S_val (v4) (by kernel_rfl) (fun _ _ => by kernel_rfl) ?_
  refine S_val (.int .i64 0) (by kernel_rfl) (fun _ _ => by kernel_rfl) ?_
  refine S_nil ?_
  obtain ⟨g7, cap8, sp9, eg7, rfl, hg71, hg72, hg73⟩ := Rw.op' rfl hr6 (by decide)
  cases eg7
  refine E_then ?_
  refine C_seq ?_
  refine C_region ?_
  refine S_val (.agg #[.int .i64 2]) (by kernel_rfl) (fun _ _ => by kernel_rfl) ?_
  refine S_val (.agg #[.int .i64 3]) (by kernel_rfl) (fun _ _ => by kernel_rfl) ?_
  refine S_newv (fun nb0 => .slice (some ⟨nb0, 0, none⟩) 2 2) [.int .i64 2, .int .i64 3] 68 (by kernel_rfl) (fun w _ => by kernel_rfl) ?_
  intro b10 hb10 Hb10
  refine S_val (.agg #[.int .i64 4]) (by kernel_rfl) (fun _ _ => by kernel_rfl) ?_
  refine S_call (by kernel_rfl) (fun _ _ => by kernel_rfl) (fun w hO => ((c_eval w _ [2, 3] 4 ((hO.rdB' (f := f7) 0 f7_len [2, 3] rfl).o.rd 2) (by decide))).mono fun _ _ ⟨he, hb⟩ => ⟨.agg #[.int .i64 7], _, he, hO.call hb, ?_⟩)
  refine S_newv (fun nb0 => .pointer (some ⟨nb0, 0, none⟩)) [.int .i64 0] 68 (by kernel_rfl) (fun w _ => by kernel_rfl) ?_
  intro b11 hb11 Hb11
  refine S_do (by kernel_rfl) (stN (L' := [⟨b11, [.int .i64 7], 68⟩, ⟨b10, [.int .i64 2, .int .i64 3], 68⟩, ⟨b3, [.int .i64 5], 68⟩, ⟨b2, [.slice (some ⟨b1, 0, none⟩) 1 1], 64⟩, ⟨b1, [.int .i64 3], 68⟩, ⟨g7, ([.int .i64 25] ++ sp9), 68⟩]) [.int .i64 7] 0 b11 0 [.int .i64 0] 68 rfl (by kernel_rfl) (by kernel_rfl) Tryd.sizeOf68 (by simp [Value.oneCell']) (by kernel_rfl) (by simp) (by kernel_rfl)) ?_
  refine S_nil ?_
  refine E_then ?_
  refine C_seq ?_
  refine C_region ?_
  refine S_val (.int .i64 0) (by kernel_rfl) (fun _ _ => by kernel_rfl) ?_
  refine S_val (.bool true) (by kernel_rfl) (fun _ _ => by kernel_rfl) ?_
  refine S_val (.bool true) (by kernel_rfl) (fun _ _ => by kernel_rfl) ?_
  refine S_val (.slice (some ⟨g7, 0, none⟩) 1 cap8) (by kernel_rfl) (fun _ _ => by kernel_rfl) ?_
  refine S_val (.int .i64 1) (by kernel_rfl) (fun _ _ => by kernel_rfl) ?_
  refine S_val (.bool true) (by kernel_rfl) (fun _ _ => by kernel_rfl) ?_
  refine S_val (.bool true) (by kernel_rfl) (fun _ _ => by kernel_rfl) ?_
  refine S_val (.bool true) (by kernel_rfl) (fun _ _ => by kernel_rfl) ?_
  refine S_val (.slice (some ⟨g7, 0, none⟩) 1 cap8) (by kernel_rfl) (fun _ _ => by kernel_rfl) ?_
  refine S_val (.pointer (some ⟨g7, 0, none⟩)) (by kernel_rfl) (fun _ _ => by kernel_rfl) ?_
  refine S_val (.agg #[.int .i64 25]) (by kernel_rfl) (ldN [.int .i64 25] 5 g7 0 ([.int .i64 25] ++ sp9) 68 rfl (by kernel_rfl) Tryd.isAgg68 Tryd.sizeOf68 (by kernel_rfl) (by kernel_rfl)) ?_
  refine S_pure (v := .int .i64 (25 % 7)) (by kernel_rfl) (c_r 25) (fun _ => by kernel_rfl) ?_
  refine S_val (.bool true) (by kernel_rfl) (fun _ _ => fv (v := .bool ((25 % 7) == 4)) (vbool (beq_iff_eq.2 (by omega))) (by kernel_rfl)) ?_
  refine S_val (.bool true) (by kernel_rfl) (fun _ _ => by kernel_rfl) ?_
  refine S_val (.bool true) (by kernel_rfl) (fun _ _ => by kernel_rfl) ?_
  refine S_val (.agg #[.int .i64 7]) (by kernel_rfl) (ldN [.int .i64 7] 0 b11 0 [.int .i64 7] 68 rfl (by kernel_rfl) Tryd.isAgg68 Tryd.sizeOf68 (by kernel_rfl) (by kernel_rfl)) ?_
  refine S_pure (v := .int .i64 (7 % 7)) (by kernel_rfl) (c_r 7) (fun _ => by kernel_rfl) ?_
  refine S_val (.bool true) (by kernel_rfl) (fun _ _ => fv (v := .bool ((7 % 7) == 0)) (vbool (beq_iff_eq.2 (by omega))) (by kernel_rfl)) ?_
  refine S_val (.bool true) (by kernel_rfl) (fun _ _ => by kernel_rfl) ?_
  refine S_val (.bool true) (by kernel_rfl) (fun _ _ => by kernel_rfl) ?_
  refine S_nil ?_
  refine E_then ?_
  refine C_ret ?_
  exact pure_ret rfl (res1 Tryd.results5 (by kernel_rfl))
end Go.Vk
