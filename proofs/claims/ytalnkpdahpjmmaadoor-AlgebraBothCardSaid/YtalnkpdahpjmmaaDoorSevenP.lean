/- Plain: what the functions over the integers modulo 7 compute. -/
import Derived.Test.YtalnkpdahpjmmaaDoorVf
set_option linter.unusedVariables false
set_option linter.unusedSimpArgs false
namespace Go.Vk
open Go
theorem tmod7 (n : Int) : -7 < n.tmod 7 ∧ n.tmod 7 < 7 := by
  have h1 := Int.tmod_lt_of_pos n (b := 7) (by omega)
  have h2 := Int.lt_tmod_of_pos n (b := 7) (by omega)
  omega
theorem r7 (n : Int) : (n.tmod 7 + 7).tmod 7 = n % 7 := by
  have h := tmod7 n
  rw [Int.tmod_eq_emod_of_nonneg (by omega)]
  rw [Int.tmod_eq_emod]
  split <;> omega
theorem addb (a b : Int) : 0 ≤ a % 7 ∧ a % 7 < 7 ∧ 0 ≤ b % 7 ∧ b % 7 < 7 := by omega
theorem mulb (a b : Int) : 0 ≤ a % 7 * (b % 7) ∧ a % 7 * (b % 7) ≤ 36 := by
  have h : a % 7 = 0 ∨ a % 7 = 1 ∨ a % 7 = 2 ∨ a % 7 = 3 ∨ a % 7 = 4 ∨ a % 7 = 5 ∨ a % 7 = 6 := by omega
  have h2 := addb a b
  rcases h with h | h | h | h | h | h | h <;> rw [h] <;> omega
def ad (a b : Int) : Int := a % 7 + b % 7
def su (a b : Int) : Int := a % 7 - b % 7
def mu (a b : Int) : Int := a % 7 * (b % 7)
/-- The inverse of a remainder. -/
def ivr (r : Int) : Int := if r = 1 then 1 else if r = 2 then 4 else if r = 3 then 5 else if r = 4 then 2 else if r = 5 then 3 else if r = 6 then 6 else 0
def iv (a : Int) : Int := ivr (a % 7)
theorem mod7 (a : Int) : a % 7 = 0 ∨ a % 7 = 1 ∨ a % 7 = 2 ∨ a % 7 = 3 ∨ a % 7 = 4 ∨ a % 7 = 5 ∨ a % 7 = 6 := by omega
def f7 (n : Int) : List Value := [.int .i64 n]
theorem f7_len (n : Int) : (f7 n).length = 1 := rfl
theorem f7_one (n : Int) : ∀ v ∈ f7 n, v.oneCell' = true := by intro v hv; simp [f7] at hv; subst hv; rfl

def ev7 (xs : List Int) (x : Int) : Int := xs.foldr (fun c y => ad (mu y x) c) 0
theorem ev7_nil (xs : List Int) (x : Int) : ev7 (xs.drop xs.length) x = 0 := by simp [ev7]
theorem ev7_step (xs : List Int) (x : Int) (k : Nat) (h : k < xs.length) : ev7 (xs.drop k) x = ad (mu (ev7 (xs.drop (k + 1)) x) x) (xs.getD k 0) := by
  have e : xs.getD k 0 = xs[k] := by rw [List.getD_eq_getElem?_getD, List.getElem?_eq_getElem h]; rfl
  rw [e]; unfold ev7
  rw [List.drop_eq_getElem_cons h]
  rfl
/-- The inner product of the first k. -/
def in7 (a b : List Int) : Nat → Int
  | 0 => 0
  | k + 1 => ad (in7 a b k) (mu (a.getD k 0) (b.getD k 0))
/-- c divided by X - x: the carry when the places from k on are done; the list then. -/
def wc7 (c : List Int) (x : Int) (n : Nat) : Nat → Int
  | 0 => 0
  | j + 1 => ad (c.getD (n - j) 0) (mu (wc7 c x n j) x)
end Go.Vk
namespace Go.Vk
/-- without: the carry behind d rounds; the list. -/
def wcr (c : List Int) (x : Int) (n : Nat) : Nat → Int
  | 0 => 0
  | d + 1 => ad (c.getD (n - d) 0) (mu (wcr c x n d) x)
def wls (c : List Int) (x : Int) (n : Nat) : Nat → List Int
  | 0 => List.replicate n 0
  | d + 1 => (wls c x n d).set (n - 1 - d) (wcr c x n (d + 1))
theorem wls_length (c : List Int) (x : Int) (n d : Nat) : (wls c x n d).length = n := by
  induction d with
  | zero => simp [wls]
  | succ d ih => simp [wls, ih]
def wo7 (c : List Int) (x : Int) : List Int := wls c x (c.length - 1) (c.length - 1)
/-- Product. -/
def pin (c d : List Int) (i : Nat) (O : List Int) : Nat → List Int
  | 0 => O
  | j + 1 => (pin c d i O j).set (i + j) (ad ((pin c d i O j).getD (i + j) 0) (mu (c.getD i 0) (d.getD j 0)))
def pout (c d : List Int) : Nat → List Int
  | 0 => List.replicate (c.length + d.length - 1) 0
  | i + 1 => pin c d i (pout c d i) d.length
theorem pin_length (c d : List Int) (i : Nat) (O : List Int) (j : Nat) : (pin c d i O j).length = O.length := by
  induction j with
  | zero => rfl
  | succ j ih => simp [pin, ih]
theorem pout_length (c d : List Int) (i : Nat) : (pout c d i).length = c.length + d.length - 1 := by
  induction i with
  | zero => simp [pout]
  | succ i ih => rw [pout, pin_length, ih]
def pr7 (c d : List Int) : List Int := if c.length = 0 ∨ d.length = 0 then [] else pout c d c.length
/-- InvertAll. -/
def ipre (xs : List Int) : Nat → Int
  | 0 => 1
  | k + 1 => if xs.getD k 0 % 7 = 0 then ipre xs k else mu (ipre xs k) (xs.getD k 0)
def io1 (xs : List Int) : Nat → List Int
  | 0 => List.replicate xs.length 0
  | k + 1 => (io1 xs k).set k (ipre xs k)
def ilf (xs : List Int) : Nat → Int
  | 0 => iv (ipre xs xs.length)
  | d + 1 => if xs.getD (xs.length - 1 - d) 0 % 7 = 0 then ilf xs d else mu (ilf xs d) (xs.getD (xs.length - 1 - d) 0)
def io2 (xs : List Int) : Nat → List Int
  | 0 => io1 xs xs.length
  | d + 1 => (io2 xs d).set (xs.length - 1 - d) (if xs.getD (xs.length - 1 - d) 0 % 7 = 0 then 0 else mu ((io2 xs d).getD (xs.length - 1 - d) 0) (ilf xs d))
theorem io1_length (xs : List Int) (k : Nat) : (io1 xs k).length = xs.length := by
  induction k with
  | zero => simp [io1]
  | succ k ih => simp [io1, ih]
theorem io2_length (xs : List Int) (k : Nat) : (io2 xs k).length = xs.length := by
  induction k with
  | zero => simp [io2, io1_length]
  | succ k ih => simp [io2, ih]
def ia7 (xs : List Int) : List Int := if xs.length = 0 then [] else io2 xs xs.length
end Go.Vk
