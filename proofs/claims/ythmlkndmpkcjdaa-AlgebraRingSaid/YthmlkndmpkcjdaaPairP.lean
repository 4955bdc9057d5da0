/- Plain: pairs modulo 5 and 7. -/
import Derived.Test.YthmlkndmpkcjdaaVp
import Derived.Test.YthmlkndmpkcjdaaSevenG
set_option linter.unusedVariables false
set_option linter.unusedSimpArgs false
namespace Go.Vk
open Go
def pa (p q : Int × Int) : Int × Int := ((p.1.tmod 5 + q.1.tmod 5).tmod 5, (p.2.tmod 7 + q.2.tmod 7).tmod 7)
def ps (p q : Int × Int) : Int × Int := ((p.1.tmod 5 - q.1.tmod 5).tmod 5, (p.2.tmod 7 - q.2.tmod 7).tmod 7)
def pm (p q : Int × Int) : Int × Int := ((p.1.tmod 5 * q.1.tmod 5).tmod 5, (p.2.tmod 7 * q.2.tmod 7).tmod 7)
def pzero (p : Int × Int) : Bool := if p.1.tmod 5 = 0 then p.2.tmod 7 == 0 else false
def fp (p : Int × Int) : List Value := [.int .i64 p.1, .int .i64 p.2]
theorem fp_len (p : Int × Int) : (fp p).length = 2 := rfl
theorem fp_one (p : Int × Int) : ∀ v ∈ fp p, v.oneCell' = true := by intro v hv; simp [fp] at hv; rcases hv with rfl | rfl <;> rfl
theorem tb5 (n : Int) : -5 < n.tmod 5 ∧ n.tmod 5 < 5 := ⟨Int.lt_tmod_of_pos n (by omega), Int.tmod_lt_of_pos n (by omega)⟩
theorem tb7 (n : Int) : -7 < n.tmod 7 ∧ n.tmod 7 < 7 := ⟨Int.lt_tmod_of_pos n (by omega), Int.tmod_lt_of_pos n (by omega)⟩
theorem tm5 (a b : Int) : -100 ≤ a.tmod 5 * b.tmod 5 ∧ a.tmod 5 * b.tmod 5 ≤ 100 := by
  have h := tb5 a
  have h2 := tb5 b
  generalize a.tmod 5 = x at *
  generalize b.tmod 5 = y at *
  have : x = -4 ∨ x = -3 ∨ x = -2 ∨ x = -1 ∨ x = 0 ∨ x = 1 ∨ x = 2 ∨ x = 3 ∨ x = 4 := by omega
  rcases this with h | h | h | h | h | h | h | h | h <;> subst h <;> omega
theorem tm7 (a b : Int) : -100 ≤ a.tmod 7 * b.tmod 7 ∧ a.tmod 7 * b.tmod 7 ≤ 100 := by
  have h := tb7 a
  have h2 := tb7 b
  generalize a.tmod 7 = x at *
  generalize b.tmod 7 = y at *
  have : x = -6 ∨ x = -5 ∨ x = -4 ∨ x = -3 ∨ x = -2 ∨ x = -1 ∨ x = 0 ∨ x = 1 ∨ x = 2 ∨ x = 3 ∨ x = 4 ∨ x = 5 ∨ x = 6 := by omega
  rcases this with h | h | h | h | h | h | h | h | h | h | h | h | h <;> subst h <;> omega
def pz : Int × Int := (0, 0)
def pp (n : Int) : Int × Int := (n.tmod 35, n.tmod 35)
def pl (l : List Int) : List (Int × Int) := (l.take 40).map pp
def evp (xs : List (Int × Int)) (x : Int × Int) : Int × Int := xs.foldr (fun c y => pa (pm y x) c) pz
theorem evp_step (xs : List (Int × Int)) (x : Int × Int) (k : Nat) (h : k < xs.length) : evp (xs.drop k) x = pa (pm (evp (xs.drop (k + 1)) x) x) (xs.getD k pz) := by
  have e : xs.getD k pz = xs[k] := by rw [List.getD_eq_getElem?_getD, List.getElem?_eq_getElem h]; rfl
  rw [e]; unfold evp
  rw [List.drop_eq_getElem_cons h]
  rfl
def pinp (c d : List (Int × Int)) (i : Nat) (O : List (Int × Int)) : Nat → List (Int × Int)
  | 0 => O
  | j + 1 => (pinp c d i O j).set (i + j) (pa ((pinp c d i O j).getD (i + j) pz) (pm (c.getD i pz) (d.getD j pz)))
def poutp (c d : List (Int × Int)) : Nat → List (Int × Int)
  | 0 => List.replicate (c.length + d.length - 1) pz
  | i + 1 => pinp c d i (poutp c d i) d.length
theorem pinp_length (c d : List (Int × Int)) (i : Nat) (O : List (Int × Int)) (j : Nat) : (pinp c d i O j).length = O.length := by
  induction j with
  | zero => rfl
  | succ j ih => simp [pinp, ih]
theorem poutp_length (c d : List (Int × Int)) (i : Nat) : (poutp c d i).length = c.length + d.length - 1 := by
  induction i with
  | zero => simp [poutp]
  | succ i ih => rw [poutp, pinp_length, ih]
def prp (c d : List (Int × Int)) : List (Int × Int) := if c.length = 0 ∨ d.length = 0 then [] else poutp c d c.length
def pw (x : Int × Int) : Nat → Int × Int
  | 0 => (1, 1)
  | k + 1 => pm (pw x k) x
def pws (x : Int × Int) (n : Nat) : Nat → List (Int × Int)
  | 0 => List.replicate n pz
  | k + 1 => (pws x n k).set k (pw x k)
theorem pws_length (x : Int × Int) (n k : Nat) : (pws x n k).length = n := by
  induction k with
  | zero => simp [pws]
  | succ k ih => simp [pws, ih]
def inp (a b : List (Int × Int)) : Nat → Int × Int
  | 0 => pz
  | k + 1 => pa (inp a b k) (pm (a.getD k pz) (b.getD k pz))
def mxs (x : Int × Int) (a : List (Int × Int)) (y : Int × Int) (b : List (Int × Int)) : Nat → List (Int × Int)
  | 0 => List.replicate a.length pz
  | k + 1 => (mxs x a y b k).set k (pa (pm x (a.getD k pz)) (pm y (b.getD k pz)))
theorem mxs_length (x : Int × Int) (a : List (Int × Int)) (y : Int × Int) (b : List (Int × Int)) (k : Nat) : (mxs x a y b k).length = a.length := by
  induction k with
  | zero => simp [mxs]
  | succ k ih => simp [mxs, ih]
end Go.Vk
