/- Proved: for every input that the row lets in, AlgebraBoth returns true and its arguments read afterwards as before; the one listed package-level variable starts as the program's text lays it (the card ties it). No condition beyond the row. -/
import Derived.Test.YtalnkpdahpjmmaaDoorRows
import Derived.Test.YtalnkpdahpjmmaaDoorCards
import Derived.Test.YtalnkpdahpjmmaaDoorTie
import Derived.WalkKit
import Derived.ProofKit
import Derived.OpenShut
import Derived.ChangeOld
import Derived.ChangeSame
import Derived.ChangeVars
import Derived.JoinedOf
import Derived.LaidMore
import Derived.LaidLaws
import Derived.SevenTiedAt
import Derived.Stop.Joined
import Derived.Below
import Derived.Test.YtalnkpdahpjmmaaDoorDBt
import Derived.Test.YtalnkpdahpjmmaaDoorOpn
namespace Go.Proofs.YtalnkpdahpjmmaaDoor.algebraBoth
open Go.ChangeShapes Go.WideShapes Go.ChangeAt Go.RowKit
set_option linter.unusedVariables false

theorem own : ownKnob Tryd.prog.godebug = none := by kernel_rfl
theorem laidOut : laidOutB Tryd.prog = true := by kernel_rfl
theorem gTab : Tryd.prog.globalNamed "veil/scalar.table" = some 0 := by kernel_rfl
theorem tTab : (Tryd.prog.globals[0]?).map (·.type) = some 73 := by kernel_rfl
def laid1 {H : Type} : List (String × DataW H) := [("veil/scalar.table", Rows.laid_veil_scalar_table)]

/-- The door's own heap meets the condition. -/
theorem door_met (os : Os) (args : Array Value) : laidMetH Tryd.prog laid1 ((World.doorLaid Tryd.prog 59 os).forCall (fun _ _ => 0) ⟨#[], args, []⟩).memory :=
  laidMetH_of_parts3 (fuel := 8) (laidMet_of_run' 8 (by kernel_rfl) (by kernel_rfl)) (by kernel_rfl) (by kernel_rfl)

/-- What the condition gives the walk: the table's cells. -/
theorem of_laid {W : World} (h : laidMetH Tryd.prog laid1 W) : Go.Vk.GV 0 Go.Vk.tbS W := by
  rw [MakeChecks.laidMetH_plain _ _ _ (by kernel_rfl)] at h
  obtain ⟨ps, ⟨g0, t0, cs0, f0, p0, q0, hg0, ht0, hv0, hd0, _, _⟩, _, _⟩ := h
  obtain rfl := Option.some.inj (gTab.symm.trans hg0)
  obtain rfl := Option.some.inj (tTab.symm.trans ht0)
  have hT := Go.Vk.table_of_trod Tryd.underlying73 Tryd.underlying34 Tryd.underlying29 (by kernel_rfl) (by kernel_rfl) (by kernel_rfl) hd0
    [[6346243789798364141, 1503914060200516822, 0, 1152921504606846976], [15486807595281847581, 14334777244411350896, 18446744073709551614, 1152921504606846975], [11819153939886771969, 14991950615390032711, 14910419812499177061, 259310039853996605], [6346243789798364139, 1503914060200516822, 0, 1152921504606846976]] (by kernel_rfl)
  have e : cs0.toList = Go.Vk.tbS := hT.trans (by kernel_rfl)
  intro j v hj
  rw [World.var?_cell hg0 hv0 j, ← Array.getElem?_toList, e]
  exact hj

set_option maxRecDepth 100000 in
theorem lifted (os : Os) (started : os.Started) (H : Type) (enc : TypeId × Value → H) :
    ReturnsInHanded {} Tryd.checked os 3 .any (fun w args => (Rows.algebraBothSpec.pre enc Tryd.prog Tryd.f3 [] false w args ∧ laidMetH Tryd.prog laid1 w) ∧ sizedMet enc Tryd.prog Tryd.f3 (OpenSpec.ofChange Rows.algebraBothSpec) false w args)
      (Rows.algebraBothSpec.post enc Tryd.prog Tryd.f3 false true false false) := by
  refine returnsInHanded_of_change_and (C := Tryd.checked) (X := fun w _ => laidMetH Tryd.prog laid1 w) (fun _ _ _ hh h => h.of_heap hh) own started (by kernel_rfl) Tryd.func3
    (ChangeSpec.witness_shaped (enc := enc) (C := Tryd.checked) (os := os) (X := fun w _ => laidMetH Tryd.prog laid1 w) false (World.doorLaid Tryd.prog 59 os) #[.slice none 0 0, .slice none 0 0] 8 rfl (World.shaped_of_RefB (by kernel_rfl) (by kernel_rfl)) (by kernel_rfl) (by kernel_rfl) (by kernel_rfl) (door_met os _)) ?_
  intro W base args ds gs before hval0 hW _ _ hL _
  have hval : ∀ (j : Nat) t v, Tryd.f3.params[j]? = some t → args[j]? = some v → Value.okWide Tryd.prog W .any base t v := hval0
  have hW' := hW
  obtain ⟨p, q, hA0, hV, rfl, hfz, hnd⟩ := hW
  have hA : DataW.TrodAll enc Tryd.prog W 0 (fun _ => true) true Tryd.f3.params.toList args.toList ds p := hA0
  rw [Tryd.params3] at hA hval
  obtain ⟨v0, vs0, d0, ds0, p0, q0, hargs, rfl, rfl, h0, r0⟩ := trodAll_cons hA
  obtain ⟨v1, vs1, d1, ds1, p1, q1, rfl, rfl, rfl, h1, r1⟩ := trodAll_cons r0
  obtain ⟨rfl, rfl, rfl⟩ := trodAll_nil r1
  obtain rfl : args = #[v0, v1] := by cases args; simp_all
  obtain ⟨rfl, rfl⟩ := trodVars_none hV
  obtain ⟨a0, len0, cap0, rfl⟩ := okWide_slice Tryd.underlying22 (hval 0 22 v0 rfl rfl)
  have k0 := h0
  have lt0 : ∀ x ∈ p0, x.block < W.heap.size := by obtain ⟨m, hm⟩ := k0; exact DataW.trod_lt m _ _ _ hm
  obtain ⟨zs, rfl, hle, hzs, hva⟩ : ∃ zs : List Nat, zs.length = len0 ∧ len0 ≤ cap0 ∧ (∀ j, zs.getD j 0 < Go.Vk.Num.W256) ∧ Go.Vk.Rd W (.slice a0 len0 cap0) 4 Go.Vk.fs4 zs := by
    obtain ⟨fuel, hf⟩ := h0
    exact Go.Vk.open4 Tryd.underlying22 Tryd.underlying33 Tryd.underlying29 (by kernel_rfl) (by kernel_rfl) hf
  obtain ⟨a1, len1, cap1, rfl⟩ := okWide_slice Tryd.underlying23 (hval 1 23 v1 rfl rfl)
  have k1 := h1
  have lt1 : ∀ x ∈ p1, x.block < W.heap.size := by obtain ⟨m, hm⟩ := k1; exact DataW.trod_lt m _ _ _ hm
  obtain ⟨ys, rfl, _, hys, hvb⟩ : ∃ ys : List Go.Vk.F5, ys.length = len1 ∧ len1 ≤ cap1 ∧ (∀ j, (ys.getD j Go.Vk.F5.z).ok) ∧ Go.Vk.Rd W (.slice a1 len1 cap1) 5 Go.Vk.ff5 ys := by
    obtain ⟨fuel, hf⟩ := h1
    exact Go.Vk.open5 Tryd.underlying23 Tryd.underlying30 Tryd.underlying29 (by kernel_rfl) (by kernel_rfl) hf
  clear hA0 hval0
  refine (Go.Vk.c_both W (of_laid hL) _ _ zs ys hzs hys hva hvb ⟨a0, cap0, rfl, hle⟩).mono fun e W' ⟨he, bel⟩ => ?_
  subst he
  exact ⟨_, rfl, _, _, _, [], _, [], hW', trodAll_mk1 (shut_bool Tryd.underlying4 _), (trodAll_cons_mk (Below.trod laidOut (by kernel_rfl) (of_decide_eq_true (by kernel_rfl)) k0 bel lt0) (trodAll_cons_mk (Below.trod laidOut (by kernel_rfl) (of_decide_eq_true (by kernel_rfl)) k1 bel lt1) trodAll_mk0)), rfl, bel.frame _, fun h => by cases h⟩

theorem over : Rows.AlgebraBothSaid :=
  OpenClaim.holds_of_wide 3 Tryd.f3 rfl rfl rfl rfl rfl rfl rfl ⟨rfl, rfl, rfl, rfl, rfl⟩ rfl rfl rfl rfl rfl (by kernel_rfl) Tryd.func3 (by kernel_rfl)
    (of_decide_eq_true (by kernel_rfl)) (by unfold Func.isWrapper; first | (rw [if_pos (by decide +kernel)]; kernel_rfl) | (rw [if_neg (by decide +kernel)]; exact ⟨rfl, rfl⟩))
    (fun os started H enc _ => lifted os started H enc)
end Go.Proofs.YtalnkpdahpjmmaaDoor.algebraBoth
namespace Go.Proofs.YtalnkpdahpjmmaaDoor
/-- The statement: the tied card. -/
theorem AlgebraBoth_holds : Rows.AlgebraBothCardSaid :=
  Claim7.holds_tied_plain_at .later [] [.data] true (true, "ad3925e62a4e185ee4dbacf925c0a26ec58111b352a821a1569415cfa823f099") true
    algebraBoth.over (fun _ h => by cases h) (by kernel_rfl) (fun _ h => by cases h) algebraBoth_row_tie rfl ⟨rfl, rfl⟩ (by kernel_rfl) rfl
    (fun f fn hf hfn => by
      obtain rfl : f = 3 := Option.some.inj ((show Tryd.prog.funcNamed "veil/veillaw06.AlgebraBoth" = some 3 by kernel_rfl).symm.trans hf) |>.symm
      obtain rfl : fn = Tryd.f3 := (Option.some.inj (Tryd.func3.symm.trans hfn)).symm
      exact ⟨by kernel_rfl, fun j t ht => by
        rw [Tryd.params3] at ht
        have h3 : t = 22 ∨ t = 23 := by
          rcases j with _ | _ | j
          · left; simpa using ht.symm
          · right; simpa using ht.symm
          · simp at ht
        rcases h3 with rfl | rfl
        · exact (show Tryd.prog.wantsStandIn 22 = false by kernel_rfl)
        · exact (show Tryd.prog.wantsStandIn 23 = false by kernel_rfl)⟩)
    (by kernel_rfl)
#print axioms AlgebraBoth_holds
end Go.Proofs.YtalnkpdahpjmmaaDoor
