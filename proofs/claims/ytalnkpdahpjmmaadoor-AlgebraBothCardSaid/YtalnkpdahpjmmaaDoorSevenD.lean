/- What functions of the program do: walks, printed by a program of my own. -/
import Derived.Test.YtalnkpdahpjmmaaDoorSevenC
set_option linter.unusedVariables false
set_option linter.unusedSimpArgs false
namespace Go.Vk
open Go Go.RowKit Go.Proofs
theorem c_rec_ok (w0 : World) (rest : List B) (xb eb : Nat) : ∀ w, Own w0 ([] ++ rest) w → CallsD Tryd.prog 49 #[.pointer (some ⟨xb, 0, none⟩), .pointer (some ⟨eb, 0, none⟩)] .returning w fun e u' w' => e = .returned (.tuple #[]) ∧ u' = .returning ∧ Own w0 ([] ++ rest) w' := by
  refine recovers (u := .returning) (u' := .returning) (v0 := .nilIface) (.nilIface) Tryd.func49 rfl (.inl ⟨rfl, rfl, rfl⟩) _ rfl (by kernel_rfl) (fun _ => by kernel_rfl) (by kernel_rfl) (fun _ => by kernel_rfl) ?_
  refine C_seq ?_
  refine C_region ?_
  refine S_val (.nilIface) (by kernel_rfl) (fun _ _ => by kernel_rfl) ?_
  refine S_val (.bool false) (by kernel_rfl) (fun _ _ => by kernel_rfl) ?_
  refine S_nil ?_
  refine E_then ?_
  refine C_false (by kernel_rfl) ?_
  refine C_skip ?_
  exact E_post (.tuple #[]) rfl (resM (rs := []) Tryd.results49 [] (by simp) (fun w hO => .nil)) (fun w hw => ⟨rfl, rfl, hw⟩)
theorem c_rec_panic (w0 : World) (rest : List B) (o xb eb : Nat) (os : List Value) (ev xv : Value) : ∀ w, Own w0 ([⟨o, os, 64⟩, ⟨eb, [ev], 55⟩, ⟨xb, [xv], 64⟩] ++ rest) w → CallsD Tryd.prog 49 #[.pointer (some ⟨xb, 0, none⟩), .pointer (some ⟨eb, 0, none⟩)] (.panicking [{ v := .iface 96 (.agg #[]), recovered := false }]) w fun e u' w' => e = .returned (.tuple #[]) ∧ u' = (.panicking [{ v := .iface 96 (.agg #[]), recovered := true }]) ∧ Own w0 ([⟨o, os, 64⟩, ⟨eb, [.int .i64 61], 55⟩, ⟨xb, [.slice none 0 0], 64⟩] ++ rest) w' := by
  refine recovers (u := (.panicking [{ v := .iface 96 (.agg #[]), recovered := false }])) (u' := (.panicking [{ v := .iface 96 (.agg #[]), recovered := true }])) (v0 := .iface 96 (.agg #[])) (.iface 96 (.agg #[])) Tryd.func49 rfl (.inr ⟨rfl, rfl⟩) _ rfl (by kernel_rfl) (fun _ => by kernel_rfl) (by kernel_rfl) (fun _ => by kernel_rfl) ?_
  refine C_seq ?_
  refine C_region ?_
  refine S_val (.iface 96 (.agg #[])) (by kernel_rfl) (fun _ _ => by kernel_rfl) ?_
  refine S_val (.bool true) (by kernel_rfl) (fun _ _ => by kernel_rfl) ?_
  refine S_nil ?_
  refine E_then ?_
  refine C_true (by kernel_rfl) ?_
  refine C_seq ?_
  refine C_seq ?_
  refine C_region ?_
  refine S_val (.iface 96 (.agg #[])) (by kernel_rfl) (fun _ _ => by kernel_rfl) ?_
  refine S_val (.tuple #[.agg #[], .bool true]) (by kernel_rfl) (fun _ _ => by kernel_rfl) ?_
  refine S_val (.tuple #[.agg #[], .bool true]) (by kernel_rfl) (fun _ _ => by kernel_rfl) ?_
  refine S_val (.agg #[]) (by kernel_rfl) (fun _ _ => by kernel_rfl) ?_
  refine S_val (.bool true) (by kernel_rfl) (fun _ _ => by kernel_rfl) ?_
  refine S_newv (fun nb0 => .pointer (some ⟨nb0, 0, none⟩)) [] 96 (by kernel_rfl) (fun w _ => by kernel_rfl) ?_
  intro b1 hb1 Hb1
  refine S_do (by kernel_rfl) (stN (L' := [⟨b1, [], 96⟩, ⟨o, os, 64⟩, ⟨eb, [ev], 55⟩, ⟨xb, [xv], 64⟩] ++ rest) [] 0 b1 0 [] 96 rfl (by kernel_rfl) (by kernel_rfl) Tryd.sizeOf96 (by simp [Value.oneCell']) (by kernel_rfl) (by simp) (by kernel_rfl)) ?_
  refine S_val (.bool true) (by kernel_rfl) (fun _ _ => by kernel_rfl) ?_
  refine S_nil ?_
  refine E_then ?_
  refine C_seq ?_
  refine C_region ?_
  refine S_val (.bool true) (by kernel_rfl) (fun _ _ => by kernel_rfl) ?_
  refine S_val (.bool false) (by kernel_rfl) (fun _ _ => by kernel_rfl) ?_
  refine S_nil ?_
  refine E_then ?_
  refine C_false (by kernel_rfl) ?_
  refine C_skip ?_
  refine E_then ?_
  refine C_region ?_
  refine S_do (by kernel_rfl) (st1 (v := .slice none 0 0) (L' := [⟨b1, [], 96⟩, ⟨o, os, 64⟩, ⟨eb, [ev], 55⟩, ⟨xb, [.slice none 0 0], 64⟩] ++ rest) 3 xb 0 [xv] 64 rfl (by kernel_rfl) (by kernel_rfl) Tryd.sizeOf64 (by rfl) (by kernel_rfl) (by simp) (by kernel_rfl)) ?_
  refine S_do (by kernel_rfl) (st1 (v := .int .i64 61) (L' := [⟨b1, [], 96⟩, ⟨o, os, 64⟩, ⟨eb, [.int .i64 61], 55⟩, ⟨xb, [.slice none 0 0], 64⟩] ++ rest) 2 eb 0 [ev] 55 rfl (by kernel_rfl) (by kernel_rfl) Tryd.sizeOf55 (by rfl) (by kernel_rfl) (by simp) (by kernel_rfl)) ?_
  refine S_nil ?_
  exact E_post (.tuple #[]) rfl (resM (rs := []) Tryd.results49 [] (by simp) (fun w hO => .nil)) (fun w hw => ⟨rfl, rfl, hw.tail⟩)
end Go.Vk
