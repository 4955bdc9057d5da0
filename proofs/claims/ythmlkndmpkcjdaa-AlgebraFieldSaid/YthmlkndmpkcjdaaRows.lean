/-
  No cell of these rows narrows 'for every input' (looked for: loops, veiled, ifaces, maps, wideKeys, modest, calm, conditions, laid).
  DERIVED. THE GIVEN ROWS OF THIS SEAT. 9 by the template 'for every input the law returns true; each argument reads behind the call as it read before'; 0 by the template 'total and deterministic' (their statements: YthmlkndmpkcjdaaTotals.lean).
  GIVEN WITH THE SEED: the statements are not yours to turn. If you find one false, say at which input.
  Laid BY PROGRAM, IN A SANDBOX (cutbox-rows.mjs): the forced cells as the released guide's own fill.sh prints them over the translation 084b6c026fe77e42… (all of the seat's roots in one cut). By AI agents, Wed Nov 11 2026. No macro, syntax, notation, axiom, sorry.
-/
import Derived.Test.YthmlkndmpkcjdaaChecked
import GoSem.Claim
import GoSem.ClaimJoined
import GoSem.ClaimMapViews
import Derived.JoinedTies
import Derived.KernelRfl
namespace Go.Proofs.Ythmlkndmpkcjdaa
/- THE CELL 'sum', in the pinned program and in every row, IS THE sha256 OF THE DUMP (.gsa) THAT YthmlkndmpkcjdaaProg.lean LOADS. Nothing in Lean hashes anything: it is a label: what it is worth is what the hold of that sum in a sandbox is worth. -/
noncomputable def Try.pinned : Pinned := { name := "ythmlkndmpkcjdaa", sum := "084b6c026fe77e4268bf3a78e240fd61cb4946d078f09a8412aa123c2baa0237", checked := Try.checked }
namespace Rows
def none {H : Type} : Left H := { results := [], args := [] }

/-- 'veillaw06.AlgebraSums': WHATEVER THE INPUT: true; the input reads as it did. -/
def algebraSumsSpec : ChangeSpec := { name := "algebraSums", fn := fun _ => fun
  | [d1, d2, d3, d4] => { results := [.lit (.bool true)], args := [d1, d2, d3, d4] }
  | _ => none }
def algebraSumsRow : OpenClaim := { program := "ythmlkndmpkcjdaa", sum := "084b6c026fe77e4268bf3a78e240fd61cb4946d078f09a8412aa123c2baa0237", func := "veil/veillaw06.AlgebraSums", spec := "algebraSums", unfollowed := true, recurses := true, apart := false }
def AlgebraSumsSaid : Prop := algebraSumsRow.holds Try.pinned (OpenSpec.ofChange algebraSumsSpec)

/-- ITS FALSE NEIGHBOUR: 'it returns false'. Refute it at one input. -/
def algebraSumsWrong : ChangeSpec := { name := "algebraSums", fn := fun _ => fun
  | [d1, d2, d3, d4] => { results := [.lit (.bool false)], args := [d1, d2, d3, d4] }
  | _ => none }
def AlgebraSumsWrongFalsely : Prop := algebraSumsRow.holds Try.pinned (OpenSpec.ofChange algebraSumsWrong)

/-- 'veillaw06.AlgebraPolys': WHATEVER THE INPUT: true; the input reads as it did. -/
def algebraPolysSpec : ChangeSpec := { name := "algebraPolys", fn := fun _ => fun
  | [d1, d2, d3, d4] => { results := [.lit (.bool true)], args := [d1, d2, d3, d4] }
  | _ => none }
def algebraPolysRow : OpenClaim := { program := "ythmlkndmpkcjdaa", sum := "084b6c026fe77e4268bf3a78e240fd61cb4946d078f09a8412aa123c2baa0237", func := "veil/veillaw06.AlgebraPolys", spec := "algebraPolys", unfollowed := true, recurses := true, apart := false }
def AlgebraPolysSaid : Prop := algebraPolysRow.holds Try.pinned (OpenSpec.ofChange algebraPolysSpec)

/-- ITS FALSE NEIGHBOUR: 'it returns false'. Refute it at one input. -/
def algebraPolysWrong : ChangeSpec := { name := "algebraPolys", fn := fun _ => fun
  | [d1, d2, d3, d4] => { results := [.lit (.bool false)], args := [d1, d2, d3, d4] }
  | _ => none }
def AlgebraPolysWrongFalsely : Prop := algebraPolysRow.holds Try.pinned (OpenSpec.ofChange algebraPolysWrong)

/-- 'veillaw06.AlgebraInverts': WHATEVER THE INPUT: true; the input reads as it did. -/
def algebraInvertsSpec : ChangeSpec := { name := "algebraInverts", fn := fun _ => fun
  | [d] => { results := [.lit (.bool true)], args := [d] }
  | _ => none }
def algebraInvertsRow : OpenClaim := { program := "ythmlkndmpkcjdaa", sum := "084b6c026fe77e4268bf3a78e240fd61cb4946d078f09a8412aa123c2baa0237", func := "veil/veillaw06.AlgebraInverts", spec := "algebraInverts", unfollowed := true, recurses := true, apart := false }
def AlgebraInvertsSaid : Prop := algebraInvertsRow.holds Try.pinned (OpenSpec.ofChange algebraInvertsSpec)

/-- ITS FALSE NEIGHBOUR: 'it returns false'. Refute it at one input. -/
def algebraInvertsWrong : ChangeSpec := { name := "algebraInverts", fn := fun _ => fun
  | [d] => { results := [.lit (.bool false)], args := [d] }
  | _ => none }
def AlgebraInvertsWrongFalsely : Prop := algebraInvertsRow.holds Try.pinned (OpenSpec.ofChange algebraInvertsWrong)

/-- 'veillaw06.AlgebraSolves': WHATEVER THE INPUT: true; the input reads as it did. -/
def algebraSolvesSpec : ChangeSpec := { name := "algebraSolves", fn := fun _ => fun
  | [d1, d2] => { results := [.lit (.bool true)], args := [d1, d2] }
  | _ => none }
def algebraSolvesRow : OpenClaim := { program := "ythmlkndmpkcjdaa", sum := "084b6c026fe77e4268bf3a78e240fd61cb4946d078f09a8412aa123c2baa0237", func := "veil/veillaw06.AlgebraSolves", spec := "algebraSolves", unfollowed := true, recurses := true, apart := false }
def AlgebraSolvesSaid : Prop := algebraSolvesRow.holds Try.pinned (OpenSpec.ofChange algebraSolvesSpec)

/-- ITS FALSE NEIGHBOUR: 'it returns false'. Refute it at one input. -/
def algebraSolvesWrong : ChangeSpec := { name := "algebraSolves", fn := fun _ => fun
  | [d1, d2] => { results := [.lit (.bool false)], args := [d1, d2] }
  | _ => none }
def AlgebraSolvesWrongFalsely : Prop := algebraSolvesRow.holds Try.pinned (OpenSpec.ofChange algebraSolvesWrong)

/-- 'veillaw06.AlgebraSystem': WHATEVER THE INPUT: true; the input reads as it did. -/
def algebraSystemSpec : ChangeSpec := { name := "algebraSystem", fn := fun _ => fun
  | [d1, d2, d3] => { results := [.lit (.bool true)], args := [d1, d2, d3] }
  | _ => none }
def algebraSystemRow : OpenClaim := { program := "ythmlkndmpkcjdaa", sum := "084b6c026fe77e4268bf3a78e240fd61cb4946d078f09a8412aa123c2baa0237", func := "veil/veillaw06.AlgebraSystem", spec := "algebraSystem", unfollowed := true, recurses := true, apart := false }
def AlgebraSystemSaid : Prop := algebraSystemRow.holds Try.pinned (OpenSpec.ofChange algebraSystemSpec)

/-- ITS FALSE NEIGHBOUR: 'it returns false'. Refute it at one input. -/
def algebraSystemWrong : ChangeSpec := { name := "algebraSystem", fn := fun _ => fun
  | [d1, d2, d3] => { results := [.lit (.bool false)], args := [d1, d2, d3] }
  | _ => none }
def AlgebraSystemWrongFalsely : Prop := algebraSystemRow.holds Try.pinned (OpenSpec.ofChange algebraSystemWrong)

/-- 'veillaw06.AlgebraMeets': WHATEVER THE INPUT: true; the input reads as it did. -/
def algebraMeetsSpec : ChangeSpec := { name := "algebraMeets", fn := fun _ => fun
  | [d1, d2] => { results := [.lit (.bool true)], args := [d1, d2] }
  | _ => none }
def algebraMeetsRow : OpenClaim := { program := "ythmlkndmpkcjdaa", sum := "084b6c026fe77e4268bf3a78e240fd61cb4946d078f09a8412aa123c2baa0237", func := "veil/veillaw06.AlgebraMeets", spec := "algebraMeets", unfollowed := true, recurses := true, apart := false }
def AlgebraMeetsSaid : Prop := algebraMeetsRow.holds Try.pinned (OpenSpec.ofChange algebraMeetsSpec)

/-- ITS FALSE NEIGHBOUR: 'it returns false'. Refute it at one input. -/
def algebraMeetsWrong : ChangeSpec := { name := "algebraMeets", fn := fun _ => fun
  | [d1, d2] => { results := [.lit (.bool false)], args := [d1, d2] }
  | _ => none }
def AlgebraMeetsWrongFalsely : Prop := algebraMeetsRow.holds Try.pinned (OpenSpec.ofChange algebraMeetsWrong)

/-- 'veillaw06.AlgebraRing': WHATEVER THE INPUT: true; the input reads as it did. -/
def algebraRingSpec : ChangeSpec := { name := "algebraRing", fn := fun _ => fun
  | [d1, d2, d3] => { results := [.lit (.bool true)], args := [d1, d2, d3] }
  | _ => none }
def algebraRingRow : OpenClaim := { program := "ythmlkndmpkcjdaa", sum := "084b6c026fe77e4268bf3a78e240fd61cb4946d078f09a8412aa123c2baa0237", func := "veil/veillaw06.AlgebraRing", spec := "algebraRing", unfollowed := true, recurses := true, apart := false }
def AlgebraRingSaid : Prop := algebraRingRow.holds Try.pinned (OpenSpec.ofChange algebraRingSpec)

/-- ITS FALSE NEIGHBOUR: 'it returns false'. Refute it at one input. -/
def algebraRingWrong : ChangeSpec := { name := "algebraRing", fn := fun _ => fun
  | [d1, d2, d3] => { results := [.lit (.bool false)], args := [d1, d2, d3] }
  | _ => none }
def AlgebraRingWrongFalsely : Prop := algebraRingRow.holds Try.pinned (OpenSpec.ofChange algebraRingWrong)

/-- 'veillaw06.AlgebraField': WHATEVER THE INPUT: true; the input reads as it did. -/
def algebraFieldSpec : ChangeSpec := { name := "algebraField", fn := fun _ => fun
  | [d1, d2] => { results := [.lit (.bool true)], args := [d1, d2] }
  | _ => none }
def algebraFieldRow : OpenClaim := { program := "ythmlkndmpkcjdaa", sum := "084b6c026fe77e4268bf3a78e240fd61cb4946d078f09a8412aa123c2baa0237", func := "veil/veillaw06.AlgebraField", spec := "algebraField", unfollowed := true, recurses := true, apart := false }
def AlgebraFieldSaid : Prop := algebraFieldRow.holds Try.pinned (OpenSpec.ofChange algebraFieldSpec)

/-- ITS FALSE NEIGHBOUR: 'it returns false'. Refute it at one input. -/
def algebraFieldWrong : ChangeSpec := { name := "algebraField", fn := fun _ => fun
  | [d1, d2] => { results := [.lit (.bool false)], args := [d1, d2] }
  | _ => none }
def AlgebraFieldWrongFalsely : Prop := algebraFieldRow.holds Try.pinned (OpenSpec.ofChange algebraFieldWrong)

/-- 'veillaw06.AlgebraOwn': WHATEVER THE INPUT: true; the input reads as it did. -/
def algebraOwnSpec : ChangeSpec := { name := "algebraOwn", fn := fun _ => fun
  | [d1, d2, d3] => { results := [.lit (.bool true)], args := [d1, d2, d3] }
  | _ => none }
def algebraOwnRow : OpenClaim := { program := "ythmlkndmpkcjdaa", sum := "084b6c026fe77e4268bf3a78e240fd61cb4946d078f09a8412aa123c2baa0237", func := "veil/veillaw06.AlgebraOwn", spec := "algebraOwn", unfollowed := true, recurses := true, apart := false }
def AlgebraOwnSaid : Prop := algebraOwnRow.holds Try.pinned (OpenSpec.ofChange algebraOwnSpec)

/-- ITS FALSE NEIGHBOUR: 'it returns false'. Refute it at one input. -/
def algebraOwnWrong : ChangeSpec := { name := "algebraOwn", fn := fun _ => fun
  | [d1, d2, d3] => { results := [.lit (.bool false)], args := [d1, d2, d3] }
  | _ => none }
def AlgebraOwnWrongFalsely : Prop := algebraOwnRow.holds Try.pinned (OpenSpec.ofChange algebraOwnWrong)

/- THE SECOND FORM. 'bulk': how many values and letters a reading holds, each counted each time it is reached (what is shared counts as often as it is met; a slice's spare places count too). A statement '..UptoSaid' is the law's where the arguments, and the package variables that the reading takes, are together of bulk at most 1048576: NARROWER than '..Said'. Prove '..Said' where nothing that the law and all that it calls make is longer than what came in: it says more and counts as full. Else prove '..UptoSaid'. A law counts once. -/
mutual
def uptoBulk {H : Type} : DataW H → Nat
  | .lit (.string bytes) => bytes.length + 1
  | .lit _ => 1
  | .nil => 1
  | .ptr d => uptoBulk d + 1
  | .slice elems spare => uptoBulkAll elems + uptoBulkAll spare + 1
  | .agg parts => uptoBulkAll parts + 1
  | .iface _ d => uptoBulk d + 1
  | .map entries => uptoBulkEntries entries + 1
  | .held _ => 1
def uptoBulkAll {H : Type} : List (DataW H) → Nat
  | [] => 0
  | d :: r => uptoBulk d + uptoBulkAll r
def uptoBulkEntries {H : Type} : List (Lit × DataW H) → Nat
  | [] => 0
  | x :: r => uptoBulkEntry x + uptoBulkEntries r
def uptoBulkEntry {H : Type} : Lit × DataW H → Nat
  | (.string bytes, d) => bytes.length + uptoBulk d + 1
  | (_, d) => uptoBulk d + 1
 end
def uptoSmall : (H : Type) → List (DataW H) → Bool := fun _ ds => decide (uptoBulkAll ds ≤ 1048576)
def OpenSpec.upto (s : _root_.Go.ChangeSpec) : _root_.Go.OpenSpec := { _root_.Go.OpenSpec.ofChange s with cond := some uptoSmall }

/-- 'veillaw06.AlgebraSums', WHERE WHAT IT READS IS OF BULK AT MOST 1048576: true; the input reads as it did. -/
def algebraSumsUptoRow : OpenClaim := { program := "ythmlkndmpkcjdaa", sum := "084b6c026fe77e4268bf3a78e240fd61cb4946d078f09a8412aa123c2baa0237", func := "veil/veillaw06.AlgebraSums", spec := "algebraSums", unfollowed := true, recurses := true, apart := false, narrowed := true }
def AlgebraSumsUptoSaid : Prop := algebraSumsUptoRow.holds Try.pinned (OpenSpec.upto algebraSumsSpec)

/-- 'veillaw06.AlgebraPolys', WHERE WHAT IT READS IS OF BULK AT MOST 1048576: true; the input reads as it did. -/
def algebraPolysUptoRow : OpenClaim := { program := "ythmlkndmpkcjdaa", sum := "084b6c026fe77e4268bf3a78e240fd61cb4946d078f09a8412aa123c2baa0237", func := "veil/veillaw06.AlgebraPolys", spec := "algebraPolys", unfollowed := true, recurses := true, apart := false, narrowed := true }
def AlgebraPolysUptoSaid : Prop := algebraPolysUptoRow.holds Try.pinned (OpenSpec.upto algebraPolysSpec)

/-- 'veillaw06.AlgebraInverts', WHERE WHAT IT READS IS OF BULK AT MOST 1048576: true; the input reads as it did. -/
def algebraInvertsUptoRow : OpenClaim := { program := "ythmlkndmpkcjdaa", sum := "084b6c026fe77e4268bf3a78e240fd61cb4946d078f09a8412aa123c2baa0237", func := "veil/veillaw06.AlgebraInverts", spec := "algebraInverts", unfollowed := true, recurses := true, apart := false, narrowed := true }
def AlgebraInvertsUptoSaid : Prop := algebraInvertsUptoRow.holds Try.pinned (OpenSpec.upto algebraInvertsSpec)

/-- 'veillaw06.AlgebraSolves', WHERE WHAT IT READS IS OF BULK AT MOST 1048576: true; the input reads as it did. -/
def algebraSolvesUptoRow : OpenClaim := { program := "ythmlkndmpkcjdaa", sum := "084b6c026fe77e4268bf3a78e240fd61cb4946d078f09a8412aa123c2baa0237", func := "veil/veillaw06.AlgebraSolves", spec := "algebraSolves", unfollowed := true, recurses := true, apart := false, narrowed := true }
def AlgebraSolvesUptoSaid : Prop := algebraSolvesUptoRow.holds Try.pinned (OpenSpec.upto algebraSolvesSpec)

/-- 'veillaw06.AlgebraSystem', WHERE WHAT IT READS IS OF BULK AT MOST 1048576: true; the input reads as it did. -/
def algebraSystemUptoRow : OpenClaim := { program := "ythmlkndmpkcjdaa", sum := "084b6c026fe77e4268bf3a78e240fd61cb4946d078f09a8412aa123c2baa0237", func := "veil/veillaw06.AlgebraSystem", spec := "algebraSystem", unfollowed := true, recurses := true, apart := false, narrowed := true }
def AlgebraSystemUptoSaid : Prop := algebraSystemUptoRow.holds Try.pinned (OpenSpec.upto algebraSystemSpec)

/-- 'veillaw06.AlgebraMeets', WHERE WHAT IT READS IS OF BULK AT MOST 1048576: true; the input reads as it did. -/
def algebraMeetsUptoRow : OpenClaim := { program := "ythmlkndmpkcjdaa", sum := "084b6c026fe77e4268bf3a78e240fd61cb4946d078f09a8412aa123c2baa0237", func := "veil/veillaw06.AlgebraMeets", spec := "algebraMeets", unfollowed := true, recurses := true, apart := false, narrowed := true }
def AlgebraMeetsUptoSaid : Prop := algebraMeetsUptoRow.holds Try.pinned (OpenSpec.upto algebraMeetsSpec)

/-- 'veillaw06.AlgebraRing', WHERE WHAT IT READS IS OF BULK AT MOST 1048576: true; the input reads as it did. -/
def algebraRingUptoRow : OpenClaim := { program := "ythmlkndmpkcjdaa", sum := "084b6c026fe77e4268bf3a78e240fd61cb4946d078f09a8412aa123c2baa0237", func := "veil/veillaw06.AlgebraRing", spec := "algebraRing", unfollowed := true, recurses := true, apart := false, narrowed := true }
def AlgebraRingUptoSaid : Prop := algebraRingUptoRow.holds Try.pinned (OpenSpec.upto algebraRingSpec)

/-- 'veillaw06.AlgebraField', WHERE WHAT IT READS IS OF BULK AT MOST 1048576: true; the input reads as it did. -/
def algebraFieldUptoRow : OpenClaim := { program := "ythmlkndmpkcjdaa", sum := "084b6c026fe77e4268bf3a78e240fd61cb4946d078f09a8412aa123c2baa0237", func := "veil/veillaw06.AlgebraField", spec := "algebraField", unfollowed := true, recurses := true, apart := false, narrowed := true }
def AlgebraFieldUptoSaid : Prop := algebraFieldUptoRow.holds Try.pinned (OpenSpec.upto algebraFieldSpec)

/-- 'veillaw06.AlgebraOwn', WHERE WHAT IT READS IS OF BULK AT MOST 1048576: true; the input reads as it did. -/
def algebraOwnUptoRow : OpenClaim := { program := "ythmlkndmpkcjdaa", sum := "084b6c026fe77e4268bf3a78e240fd61cb4946d078f09a8412aa123c2baa0237", func := "veil/veillaw06.AlgebraOwn", spec := "algebraOwn", unfollowed := true, recurses := true, apart := false, narrowed := true }
def AlgebraOwnUptoSaid : Prop := algebraOwnUptoRow.holds Try.pinned (OpenSpec.upto algebraOwnSpec)

end Rows
end Go.Proofs.Ythmlkndmpkcjdaa
