/-
  DERIVED. GIVEN WITH THE SEED: THE PROGRAM's TIES (one call each: nine closed facts by the kernel) AND EACH ROW's TIE, after the 31st guide's Derived/Test/Toyas{Tie, Card}.lean. No idea stands in it: it is a product of the set-up. Laid BY PROGRAM, IN A SANDBOX (cutbox-door.mjs). By AI agents, Wed Nov 11 2026. No macro, syntax, notation, axiom, sorry.
-/
import Derived.Test.YtalnkpdahpjmmaaDoorRows
import Derived.LaidByTextLater
import Derived.SevenTiedAt
import Derived.LaidSub
import Derived.LaidOnce
namespace Go.Proofs.YtalnkpdahpjmmaaDoor
open Go
set_option maxRecDepth 100000
theorem seatTie1 : Tryd.prog.laidByTextLater [("veil/field.table", Rows.laid_veil_field_table), ("veil/hash.rounds", Rows.laid_veil_hash_rounds), ("veil/hash.start", Rows.laid_veil_hash_start), ("veil/scalar.table", Rows.laid_veil_scalar_table), ("veil/curve.one", Rows.laid_veil_curve_one), ("veil/curve.twice", Rows.laid_veil_curve_twice), ("veil/curve.base", Rows.laid_veil_curve_base)] [.data, .data, .data, .data, .wider, .data, .data] true :=
  Program.laidByTextLater_by_one 59 8 81 (by kernel_rfl) (by kernel_rfl) (by kernel_rfl) (by kernel_rfl) (by kernel_rfl) (by kernel_rfl) (fun _ _ => by kernel_rfl)
theorem noOwnUnsafe : Tryd.pinned.checked.prog.headLifts.contains "ownunsafe" = false := by kernel_rfl
theorem tie : Tryd.prog.laidByTextLater [("veil/scalar.table", Rows.laid_veil_scalar_table)] [.data] true :=
  Program.laidByTextLater.sub seatTie1 ["veil/scalar.table"] (by kernel_rfl) (by kernel_rfl)
theorem algebraBoth_row_tie : Rows.algebraBothRow.laidByTextAt .later Tryd.pinned [.data] true :=
  OpenClaim.laidByTextAt_later rfl rfl tie noOwnUnsafe
theorem tie2 : Tryd.prog.laidByTextLater [("veil/field.table", Rows.laid_veil_field_table), ("veil/hash.rounds", Rows.laid_veil_hash_rounds), ("veil/hash.start", Rows.laid_veil_hash_start), ("veil/curve.one", Rows.laid_veil_curve_one), ("veil/curve.twice", Rows.laid_veil_curve_twice), ("veil/curve.base", Rows.laid_veil_curve_base)] [.data, .data, .data, .wider, .data, .data] true :=
  Program.laidByTextLater.sub seatTie1 ["veil/field.table", "veil/hash.rounds", "veil/hash.start", "veil/curve.one", "veil/curve.twice", "veil/curve.base"] (by kernel_rfl) (by kernel_rfl)
theorem gensPrefix_row_tie : Rows.gensPrefixRow.laidByTextAt .later Tryd.pinned [.data, .data, .data, .wider, .data, .data] true :=
  OpenClaim.laidByTextAt_later rfl rfl tie2 noOwnUnsafe
theorem algebraBothUpto_row_tie : Rows.algebraBothUptoRow.laidByTextAt .later Tryd.pinned [.data] true :=
  OpenClaim.laidByTextAt_later rfl rfl tie noOwnUnsafe
theorem gensPrefixUpto_row_tie : Rows.gensPrefixUptoRow.laidByTextAt .later Tryd.pinned [.data, .data, .data, .wider, .data, .data] true :=
  OpenClaim.laidByTextAt_later rfl rfl tie2 noOwnUnsafe
end Go.Proofs.YtalnkpdahpjmmaaDoor
