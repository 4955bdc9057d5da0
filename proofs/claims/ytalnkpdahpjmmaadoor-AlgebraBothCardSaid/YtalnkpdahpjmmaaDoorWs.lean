/- Words of 64 bits as natural numbers; calls of the library's carries; arrays of words that are compared; package-level variables that are read. -/
import Derived.Test.YtalnkpdahpjmmaaDoorVq
import Derived.Laws.Externs
set_option linter.unusedVariables false
set_option linter.unusedSimpArgs false
namespace Go.Vk
open Go Go.RowKit

theorem u_add (a b : Nat) : IntKind.u64.wrap ((a : Int) + (b : Int)) = (((a + b) % 18446744073709551616 : Nat) : Int) := by rw [IntKind.wrap_u64]; omega
theorem u_mul (a b : Nat) : IntKind.u64.wrap ((a : Int) * (b : Int)) = (((a * b) % 18446744073709551616 : Nat) : Int) := by
  rw [IntKind.wrap_u64, ← Int.natCast_mul]; omega
theorem u_sub (a b : Nat) (h : b ≤ 18446744073709551616) : IntKind.u64.wrap ((a : Int) - (b : Int)) = (((a + 18446744073709551616 - b) % 18446744073709551616 : Nat) : Int) := by rw [IntKind.wrap_u64]; omega
theorem u_neg (a : Nat) (h : a ≤ 18446744073709551616) : IntKind.u64.wrap (0 - (a : Int)) = (((18446744073709551616 - a) % 18446744073709551616 : Nat) : Int) := by rw [IntKind.wrap_u64]; omega
theorem u_neg' (a : Nat) (h : a ≤ 18446744073709551616) : IntKind.u64.wrap (-(a : Int)) = (((18446744073709551616 - a) % 18446744073709551616 : Nat) : Int) := by rw [IntKind.wrap_u64]; omega
theorem u_shr (a k : Nat) : (a : Int).fdiv (2 ^ k) = ((a / 2 ^ k : Nat) : Int) := by
  rw [Int.fdiv_eq_ediv_of_nonneg _ (by exact Int.le_of_lt (Int.pow_pos (by decide))), Int.natCast_ediv, Int.natCast_pow]; rfl
theorem u_shl (a k : Nat) : IntKind.u64.wrap ((a : Int) * 2 ^ k) = (((a * 2 ^ k) % 18446744073709551616 : Nat) : Int) := by
  rw [show ((2 : Int) ^ k) = ((2 ^ k : Nat) : Int) by rw [Int.natCast_pow]; rfl]; exact u_mul _ _
theorem bv64 (a : Nat) : (BitVec.ofInt 64 (a : Int)) = BitVec.ofNat 64 a := BitVec.ofInt_natCast 64 a
theorem wrap_lt {n : Nat} (h : n < 18446744073709551616) : IntKind.u64.wrap (n : Int) = (n : Int) := by rw [IntKind.wrap_u64]; omega
theorem u_and (a b : Nat) (ha : a < 18446744073709551616) (hb : b < 18446744073709551616) : IntKind.u64.wrap ((BitVec.ofInt IntKind.u64.bits (a : Int) &&& BitVec.ofInt IntKind.u64.bits (b : Int)).toNat : Int) = ((a &&& b : Nat) : Int) := by
  show IntKind.u64.wrap ((BitVec.ofInt 64 (a : Int) &&& BitVec.ofInt 64 (b : Int)).toNat : Int) = _
  rw [bv64, bv64, BitVec.toNat_and, BitVec.toNat_ofNat, BitVec.toNat_ofNat, Nat.mod_eq_of_lt ha, Nat.mod_eq_of_lt hb]
  exact wrap_lt (Nat.lt_of_le_of_lt Nat.and_le_left ha)
theorem u_or (a b : Nat) (ha : a < 18446744073709551616) (hb : b < 18446744073709551616) : IntKind.u64.wrap ((BitVec.ofInt IntKind.u64.bits (a : Int) ||| BitVec.ofInt IntKind.u64.bits (b : Int)).toNat : Int) = ((a ||| b : Nat) : Int) := by
  show IntKind.u64.wrap ((BitVec.ofInt 64 (a : Int) ||| BitVec.ofInt 64 (b : Int)).toNat : Int) = _
  rw [bv64, bv64, BitVec.toNat_or, BitVec.toNat_ofNat, BitVec.toNat_ofNat, Nat.mod_eq_of_lt ha, Nat.mod_eq_of_lt hb]
  exact wrap_lt (Nat.or_lt_two_pow (n := 64) ha hb)
theorem u_xor (a b : Nat) (ha : a < 18446744073709551616) (hb : b < 18446744073709551616) : IntKind.u64.wrap ((BitVec.ofInt IntKind.u64.bits (a : Int) ^^^ BitVec.ofInt IntKind.u64.bits (b : Int)).toNat : Int) = ((a ^^^ b : Nat) : Int) := by
  show IntKind.u64.wrap ((BitVec.ofInt 64 (a : Int) ^^^ BitVec.ofInt 64 (b : Int)).toNat : Int) = _
  rw [bv64, bv64, BitVec.toNat_xor, BitVec.toNat_ofNat, BitVec.toNat_ofNat, Nat.mod_eq_of_lt ha, Nat.mod_eq_of_lt hb]
  exact wrap_lt (Nat.xor_lt_two_pow (n := 64) ha hb)
theorem u_andNot (a b : Nat) (ha : a < 18446744073709551616) (hb : b < 18446744073709551616) : IntKind.u64.wrap ((BitVec.ofInt IntKind.u64.bits (a : Int) &&& ~~~(BitVec.ofInt IntKind.u64.bits (b : Int))).toNat : Int) = ((a &&& (18446744073709551615 - b) : Nat) : Int) := by
  show IntKind.u64.wrap ((BitVec.ofInt 64 (a : Int) &&& ~~~(BitVec.ofInt 64 (b : Int))).toNat : Int) = _
  rw [bv64, bv64, BitVec.toNat_and, BitVec.toNat_ofNat, BitVec.toNat_not, BitVec.toNat_ofNat, Nat.mod_eq_of_lt ha, Nat.mod_eq_of_lt hb]
  have : 2 ^ 64 - 1 - b = 18446744073709551615 - b := by omega
  rw [this]
  exact wrap_lt (Nat.lt_of_le_of_lt Nat.and_le_left ha)

section
variable {P : Program} {w0 : World} {L : List B} {Q : Exit → Act → World → Prop} {a : Act} {ops : Array Oper} {o : Oper} {rest : List Oper}
/-- A call of a function of the library that the model answers by itself. -/
theorem clv {f : FuncId} {args : Array Value} {v : Value} {c : Call} {x : Operand} (ho : o.op = .call c) (hc : c.callee = .value x) (hx : a.eval x = .func (.func f) #[] #[]) (ha : c.args.map a.eval = args)
    (hf : ∀ w, (callFunc f args).run P w = .ok (.value v) w) : ∀ w, (execOp a.eval o).run P w = .ok (.value v) w := fun w => by
  unfold execOp
  simp only [ho, resolve, hc, hx, Deferred.ofValue, ha, Sem.run_bind, Sem.run_pure, Result.andThen_ok, invoke]
  simpa using hf w
/-- The library's Add64 and Sub64, as the model has them. -/
structure Carries (P : Program) (fa fs : FuncId) : Prop where
  add : ∀ (x y c : Nat), c ≤ 1 → ∀ w, (callFunc fa #[.int .u64 (x : Int), .int .u64 (y : Int), .int .u64 (c : Int)]).run P w = .ok (.value (.tuple #[.int .u64 (((x + y + c) % 18446744073709551616 : Nat) : Int), .int .u64 (((x + y + c) / 18446744073709551616 : Nat) : Int)])) w
  sub : ∀ (x y c : Nat), c ≤ 1 → ∀ w, (callFunc fs #[.int .u64 (x : Int), .int .u64 (y : Int), .int .u64 (c : Int)]).run P w = .ok (.value (.tuple #[.int .u64 (((x + 18446744073709551616 - y - c) % 18446744073709551616 : Nat) : Int), .int .u64 (((if x < y + c then 1 else 0) : Nat) : Int)])) w
theorem carry_add {f : FuncId} {fn : Func} (hf : P.funcs[f]? = some fn) (hname : (fn.name == "runtime.NumGoroutine") = false) (hb : fn.body.isNone = true) (hn : Extern.findNext fn = none)
    (he : Extern.find fn = some add64Entry) (x y c : Nat) (hc : c ≤ 1) (w : World) :
    (callFunc f #[.int .u64 (x : Int), .int .u64 (y : Int), .int .u64 (c : Int)]).run P w = .ok (.value (.tuple #[.int .u64 (((x + y + c) % 18446744073709551616 : Nat) : Int), .int .u64 (((x + y + c) / 18446744073709551616 : Nat) : Int)])) w := by
  rw [run_callFunc_extern hf hname hb hn he, run_add64 x y c (by omega) (by omega) (by omega) (by omega)]
  rfl
def sub64Entry : Array Value → Sem Value := fun args => do
  let (x, y, b) ← Extern.MathBitsCarry.three "Sub64" args
  pure (Extern.MathBitsCarry.pair ((x + Extern.MathBitsCarry.m64 - y - b) % Extern.MathBitsCarry.m64) (if x < y + b then 1 else 0))
theorem carry_sub {f : FuncId} {fn : Func} (hf : P.funcs[f]? = some fn) (hname : (fn.name == "runtime.NumGoroutine") = false) (hb : fn.body.isNone = true) (hn : Extern.findNext fn = none)
    (he : Extern.find fn = some sub64Entry) (x y c : Nat) (hc : c ≤ 1) (w : World) :
    (callFunc f #[.int .u64 (x : Int), .int .u64 (y : Int), .int .u64 (c : Int)]).run P w = .ok (.value (.tuple #[.int .u64 (((x + 18446744073709551616 - y - c) % 18446744073709551616 : Nat) : Int), .int .u64 (((if x < y + c then 1 else 0) : Nat) : Int)])) w := by
  rw [run_callFunc_extern hf hname hb hn he]
  have : c = 0 ∨ c = 1 := by omega
  rcases this with rfl | rfl <;> rfl
/-- Arrays of words, compared. -/
def cw (k : IntKind) (x : Int) : Value := .int k x
theorem all_range_eq' : ∀ (xs ys : List Int), xs.length = ys.length → ((List.range xs.length).all fun i => xs.getD i 0 == ys.getD i 0) = (xs == ys)
  | [], [], _ => by simp
  | x :: xs, y :: ys, h => by
    have ih := all_range_eq' xs ys (by simpa using h)
    rw [List.length_cons, List.range_succ_eq_map, List.all_cons, List.all_map]
    simp only [List.getD_cons_zero, Function.comp_def, List.getD_cons_succ]
    rw [ih]; rfl
  | [], _ :: _, h => by simp at h
  | _ :: _, [], h => by simp at h
theorem eqIn_words (d : Nat) {t e : TypeId} {n : Nat} {k : IntKind} (ht : P.underlying t = some (.array n e)) (he : P.underlying e = some (.int k)) (hsz : ∀ w, (sizeOf e).run P w = .ok 1 w)
    (xs ys : List Int) (hx : xs.length = n) (hy : ys.length = n) (w : World) :
    (Op.equalIn (d + 2) t (.agg (xs.map (cw k)).toArray) (.agg (ys.map (cw k)).toArray)).run P w = .ok (xs == ys) w := by
  rw [← all_range_eq' xs ys (hx.trans hy.symm), hx, List.range_eq_range', Op.equalIn]
  simp only [Sem.run_bind, run_underlying ht, Result.andThen_ok, hsz, Std.Legacy.Range.forIn_eq_forIn_range', Std.Legacy.Range.size, Nat.sub_zero, Nat.add_sub_cancel, Nat.div_one]
  have hl : ∀ i ∈ List.range' 0 n 1, i < n := fun i hi => by simpa using (List.mem_range'_1.1 hi).2
  generalize List.range' 0 n 1 = l at hl ⊢
  induction l with
  | nil => simp
  | cons i l ih =>
    have hi : i < n := hl i (by simp)
    have px : (part e (xs.map (cw k)).toArray (i * 1)).run P w = .ok (cw k (xs.getD i 0)) w := by
      simp [part, isAgg, run_underlying he, List.getD, List.getElem?_eq_getElem (show i < xs.length by omega)]
    have py : (part e (ys.map (cw k)).toArray (i * 1)).run P w = .ok (cw k (ys.getD i 0)) w := by
      simp [part, isAgg, run_underlying he, List.getD, List.getElem?_eq_getElem (show i < ys.length by omega)]
    have pe : (Op.equalIn (d + 1) e (cw k (xs.getD i 0)) (cw k (ys.getD i 0))).run P w = .ok (xs.getD i 0 == ys.getD i 0) w := by
      rw [cw, cw, run_equalIn_int w d e k k _ _ he]
    simp only [List.forIn_cons, Sem.run_bind, px, py, pe, Result.andThen_ok, List.all_cons]
    cases hb : (xs.getD i 0 == ys.getD i 0)
    · simp
    · simp only [Bool.not_true, Bool.false_eq_true, if_false, Sem.run_pure, Result.andThen_ok, Bool.true_and]
      exact ih (fun i hi => hl i (List.mem_cons_of_mem _ hi))
theorem eq_words {t e : TypeId} {n : Nat} {k : IntKind} (ht : P.underlying t = some (.array n e)) (he : P.underlying e = some (.int k)) (hsz : ∀ w, (sizeOf e).run P w = .ok 1 w)
    (xs ys : List Int) (hx : xs.length = n) (hy : ys.length = n) (w : World) : (Op.equal t (.agg (xs.map (cw k)).toArray) (.agg (ys.map (cw k)).toArray)).run P w = .ok (xs == ys) w :=
  eqIn_words 9998 ht he hsz xs ys hx hy w
theorem run_guard {op : BinOp} {t : TypeId} {x y : Operand} {A B : Array Value} (hop : op = .eql ∨ op = .neq) (hg : P.eqGuardType P.depth t = false) (w : World) : (eqGuard op t x y (.agg A) (.agg B)).run P w = .ok () w := by
  have hp : (program).run P w = .ok P w := rfl
  rcases hop with rfl | rfl <;> simp [eqGuard, Sem.run_bind, hp, hg]
theorem eqlA {t e yt : TypeId} {n : Nat} {k : IntKind} {x y : Operand} (xs ys : List Int) (ho : o.op = .binOp .eql t x y yt) (hx : a.eval x = .agg (xs.map (cw k)).toArray) (hy : a.eval y = .agg (ys.map (cw k)).toArray) (hg : P.eqGuardType P.depth t = false)
    (ht : P.underlying t = some (.array n e)) (he : P.underlying e = some (.int k)) (hsz : ∀ w, (sizeOf e).run P w = .ok 1 w) (hxl : xs.length = n) (hyl : ys.length = n) : ∀ w, (execOp a.eval o).run P w = .ok (.value (.bool (xs == ys))) w := fun w => by
  unfold execOp
  simp only [ho, hx, hy, binOp, Sem.run_bind, run_guard (.inl rfl) hg, Result.andThen_ok, eq_words ht he hsz xs ys hxl hyl, Sem.run_pure]
theorem neqA {t e yt : TypeId} {n : Nat} {k : IntKind} {x y : Operand} (xs ys : List Int) (ho : o.op = .binOp .neq t x y yt) (hx : a.eval x = .agg (xs.map (cw k)).toArray) (hy : a.eval y = .agg (ys.map (cw k)).toArray) (hg : P.eqGuardType P.depth t = false)
    (ht : P.underlying t = some (.array n e)) (he : P.underlying e = some (.int k)) (hsz : ∀ w, (sizeOf e).run P w = .ok 1 w) (hxl : xs.length = n) (hyl : ys.length = n) : ∀ w, (execOp a.eval o).run P w = .ok (.value (.bool (!(xs == ys)))) w := fun w => by
  unfold execOp
  simp only [ho, hx, hy, binOp, Sem.run_bind, run_guard (.inr rfl) hg, Result.andThen_ok, eq_words ht he hsz xs ys hxl hyl, Sem.run_pure]
end
end Go.Vk
namespace Go.Vk
open Go Go.RowKit
theorem u_and_lt (a b : Nat) (ha : a < 18446744073709551616) (_hb : b < 18446744073709551616) : a &&& b < 18446744073709551616 := Nat.lt_of_le_of_lt Nat.and_le_left ha
theorem u_or_lt (a b : Nat) (ha : a < 18446744073709551616) (hb : b < 18446744073709551616) : a ||| b < 18446744073709551616 := Nat.or_lt_two_pow (n := 64) ha hb
theorem u_xor_lt (a b : Nat) (ha : a < 18446744073709551616) (hb : b < 18446744073709551616) : a ^^^ b < 18446744073709551616 := Nat.xor_lt_two_pow (n := 64) ha hb
theorem u_andNot_lt (a b : Nat) (ha : a < 18446744073709551616) (_hb : b < 18446744073709551616) : a &&& (18446744073709551615 - b) < 18446744073709551616 := Nat.lt_of_le_of_lt Nat.and_le_left ha
theorem and_mask (a k : Nat) : a &&& (2 ^ k - 1) = a % 2 ^ k := Nat.and_two_pow_sub_one_eq_mod a k
theorem u_and_mask (a k : Nat) (ha : a < 18446744073709551616) (hk : 2 ^ k ≤ 18446744073709551616) : IntKind.u64.wrap ((BitVec.ofInt IntKind.u64.bits (a : Int) &&& BitVec.ofInt IntKind.u64.bits ((2 ^ k - 1 : Nat) : Int)).toNat : Int) = ((a % 2 ^ k : Nat) : Int) := by
  rw [u_and a (2 ^ k - 1) ha (by have := Nat.two_pow_pos k; omega), and_mask]
theorem u_and_full (a : Nat) (ha : a < 18446744073709551616) : IntKind.u64.wrap ((BitVec.ofInt IntKind.u64.bits (a : Int) &&& BitVec.ofInt IntKind.u64.bits 18446744073709551615).toNat : Int) = (a : Int) := by
  have h := u_and_mask a 64 ha (by decide)
  rw [Nat.mod_eq_of_lt (by simpa using ha)] at h; exact h
theorem u_and_zero (a : Nat) : IntKind.u64.wrap ((BitVec.ofInt IntKind.u64.bits (a : Int) &&& BitVec.ofInt IntKind.u64.bits 0).toNat : Int) = 0 := by
  show IntKind.u64.wrap ((BitVec.ofInt 64 (a : Int) &&& BitVec.ofInt 64 (0 : Int)).toNat : Int) = _
  have : (BitVec.ofInt 64 (a : Int) &&& BitVec.ofInt 64 (0 : Int)) = 0#64 := by simp
  rw [this]; rfl
theorem u_andNot_zero (a : Nat) (ha : a < 18446744073709551616) : IntKind.u64.wrap ((BitVec.ofInt IntKind.u64.bits (a : Int) &&& ~~~(BitVec.ofInt IntKind.u64.bits 0)).toNat : Int) = (a : Int) := u_and_full a ha
theorem u_andNot_full (a : Nat) (ha : a < 18446744073709551616) : IntKind.u64.wrap ((BitVec.ofInt IntKind.u64.bits (a : Int) &&& ~~~(BitVec.ofInt IntKind.u64.bits 18446744073709551615)).toNat : Int) = 0 := u_and_zero a
theorem u_or_zero (a : Nat) (ha : a < 18446744073709551616) : IntKind.u64.wrap ((BitVec.ofInt IntKind.u64.bits (a : Int) ||| BitVec.ofInt IntKind.u64.bits 0).toNat : Int) = (a : Int) := by
  have h := u_or a 0 ha (by decide)
  rw [Nat.or_zero] at h; exact h
theorem u_zero_or (a : Nat) (ha : a < 18446744073709551616) : IntKind.u64.wrap ((BitVec.ofInt IntKind.u64.bits 0 ||| BitVec.ofInt IntKind.u64.bits (a : Int)).toNat : Int) = (a : Int) := by
  have h := u_or 0 a (by decide) ha
  rw [Nat.zero_or] at h; exact h
/-- A package-level variable that is known: its block, its cells. -/
def GV (g : Nat) (cs : List Value) (w : World) : Prop := ∀ j v, cs[j]? = some v → w.cell? ⟨g, j, none⟩ = some v
theorem GV.at {g : Nat} {cs : List Value} {w : World} (h : GV g cs w) (j : Nat) {v : Value} (hv : cs[j]? = some v) : w.cell? ⟨g, j, none⟩ = some v := h j v hv
theorem GV.sub {g : Nat} {cs : List Value} {w : World} (h : GV g cs w) (off : Nat) (vs : List Value) (hv : (cs.drop off).take vs.length = vs) : ∀ j v, vs[j]? = some v → w.cell? ⟨g, off + j, none⟩ = some v := fun j v hj => by
  refine h _ _ ?_
  rw [← hv, List.getElem?_take] at hj
  split at hj
  · rw [List.getElem?_drop] at hj; exact hj
  · cases hj
theorem GV.own {g : Nat} {cs : List Value} {w0 w : World} {L : List B} (h : GV g cs w0) (hO : Own w0 L w) : GV g cs w := fun j v hj => hO.old (h j v hj)
/-- The words of a number of 256 bits. -/
def lb (n i : Nat) : Nat := n / 2 ^ (64 * i) % 18446744073709551616
theorem lb_lt (n i : Nat) : lb n i < 18446744073709551616 := Nat.mod_lt _ (by decide)
def sc4 (n : Nat) : Value := .agg #[.int .u64 ((lb n 0 : Nat) : Int), .int .u64 ((lb n 1 : Nat) : Int), .int .u64 ((lb n 2 : Nat) : Int), .int .u64 ((lb n 3 : Nat) : Int)]
abbrev T256 : Nat := 115792089237316195423570985008687907853269984665640564039457584007913129639936
theorem lb_sum (n : Nat) (h : n < T256) : n = lb n 0 + 18446744073709551616 * lb n 1 + 340282366920938463463374607431768211456 * lb n 2 + 6277101735386680763835789423207666416102355444464034512896 * lb n 3 := by
  unfold lb T256 at *; omega
theorem sc_join {x0 x1 x2 x3 n : Nat} (h0 : x0 < 18446744073709551616) (h1 : x1 < 18446744073709551616) (h2 : x2 < 18446744073709551616) (h3 : x3 < 18446744073709551616)
    (e : x0 + 18446744073709551616 * x1 + 340282366920938463463374607431768211456 * x2 + 6277101735386680763835789423207666416102355444464034512896 * x3 = n) :
    sc4 n = .agg #[.int .u64 ((x0 : Nat) : Int), .int .u64 ((x1 : Nat) : Int), .int .u64 ((x2 : Nat) : Int), .int .u64 ((x3 : Nat) : Int)] := by
  have e0 : lb n 0 = x0 := by unfold lb; omega
  have e1 : lb n 1 = x1 := by unfold lb; omega
  have e2 : lb n 2 = x2 := by unfold lb; omega
  have e3 : lb n 3 = x3 := by unfold lb; omega
  unfold sc4; rw [e0, e1, e2, e3]
end Go.Vk
namespace Go.Vk
open Go Go.RowKit
section
variable {P : Program} {w0 : World} {L : List B} {a : Act} {o : Oper}
/-- A shift to the right by a number that is not known. -/
theorem shrV {t yt : TypeId} {x y : Operand} {k : IntKind} (n s : Nat) (ho : o.op = .binOp .shr t x y yt) (hx : a.eval x = .int .u64 (n : Int)) (hy : a.eval y = .int k (s : Int)) (hs : s < 64) : ∀ w, (execOp a.eval o).run P w = .ok (.value (.int .u64 ((n / 2 ^ s : Nat) : Int))) w := fun w => by
  unfold execOp
  have h0 : ¬ ((s : Int) < 0) := by omega
  have hm : min s IntKind.u64.bits = s := Nat.min_eq_left (Nat.le_of_lt hs)
  simp only [ho, hx, hy, eqGuard, binOp, Op.shift, Sem.run_bind, h0, if_false, Int.toNat_natCast, hm, Sem.run_pure, Result.andThen_ok, u_shr]
  rfl
/-- A word of a number at a place that is not known. -/
theorem words_at (e j : Nat) (hj : j < 4) : ([.int .u64 ((lb e 0 : Nat) : Int), .int .u64 ((lb e 1 : Nat) : Int), .int .u64 ((lb e 2 : Nat) : Int), .int .u64 ((lb e 3 : Nat) : Int)] : List Value)[j]? = some (.int .u64 ((lb e j : Nat) : Int)) := by
  have : j = 0 ∨ j = 1 ∨ j = 2 ∨ j = 3 := by omega
  rcases this with rfl | rfl | rfl | rfl <;> rfl
end
/-- The bits of a number. -/
theorem bit_law (e n k : Nat) (hk : k < n) : (lb e (k / 64) / 2 ^ (k % 64) % 2 ^ 1 = 1) ↔ (e % 2 ^ n / 2 ^ k % 2 = 1) := by
  have h1 : Nat.testBit (lb e (k / 64)) (k % 64) = Nat.testBit (e % 2 ^ n) k := by
    unfold lb
    rw [show (18446744073709551616 : Nat) = 2 ^ 64 by rfl, Nat.testBit_mod_two_pow, Nat.testBit_div_two_pow, Nat.testBit_mod_two_pow]
    have e1 : 64 * (k / 64) + k % 64 = k := Nat.div_add_mod k 64
    have e1' : k % 64 + 64 * (k / 64) = k := by omega
    simp [e1, e1', hk, Nat.mod_lt k (show 0 < 64 by decide)]
  rw [Nat.testBit_eq_decide_div_mod_eq, Nat.testBit_eq_decide_div_mod_eq] at h1
  simpa using h1
end Go.Vk
namespace Go.Vk
theorem lb_inj (a b : Nat) (ha : a < T256) (hb : b < T256) : ([((lb a 0 : Nat) : Int), ((lb a 1 : Nat) : Int), ((lb a 2 : Nat) : Int), ((lb a 3 : Nat) : Int)] : List Int) = [((lb b 0 : Nat) : Int), ((lb b 1 : Nat) : Int), ((lb b 2 : Nat) : Int), ((lb b 3 : Nat) : Int)] ↔ a = b := by
  constructor
  · intro h
    simp only [List.cons.injEq, Int.natCast_inj] at h
    have h1 := lb_sum a ha
    have h2 := lb_sum b hb
    rw [h1, h2, h.1, h.2.1, h.2.2.1, h.2.2.2.1]
  · rintro rfl; rfl
theorem sc_eq (a b : Nat) (ha : a < T256) (hb : b < T256) : (([((lb a 0 : Nat) : Int), ((lb a 1 : Nat) : Int), ((lb a 2 : Nat) : Int), ((lb a 3 : Nat) : Int)] : List Int) == [((lb b 0 : Nat) : Int), ((lb b 1 : Nat) : Int), ((lb b 2 : Nat) : Int), ((lb b 3 : Nat) : Int)]) = decide (a = b) := by
  rw [Bool.eq_iff_iff, beq_iff_eq, decide_eq_true_eq]; exact lb_inj a b ha hb
theorem sc_eq0 (a : Nat) (ha : a < T256) : (([((lb a 0 : Nat) : Int), ((lb a 1 : Nat) : Int), ((lb a 2 : Nat) : Int), ((lb a 3 : Nat) : Int)] : List Int) == [0, 0, 0, 0]) = decide (a = 0) := sc_eq a 0 ha (by decide)
end Go.Vk
namespace Go.Vk
open Go Go.RowKit
theorem u_mul_lt (a b K : Nat) (h : a * b ≤ K) (hK : K < 18446744073709551616) : IntKind.u64.wrap ((a : Int) * (b : Int)) = ((a * b : Nat) : Int) := by rw [u_mul, Nat.mod_eq_of_lt (Nat.lt_of_le_of_lt h hK)]
theorem u_add_lt (a b K : Nat) (h : a + b ≤ K) (hK : K < 18446744073709551616) : IntKind.u64.wrap ((a : Int) + (b : Int)) = ((a + b : Nat) : Int) := by rw [u_add, Nat.mod_eq_of_lt (Nat.lt_of_le_of_lt h hK)]
end Go.Vk
namespace Go.Vk
open Go Go.RowKit
section
variable {P : Program} {w0 : World} {Z : List Nat} {L : List B} {Q : Exit → Act → World → Prop} {a : Act} {ops : Array Oper} {o : Oper} {rest : List Oper} {ks : List Kd}
/-- A row of cells out of a block of Z. -/
theorem D_lbN {t : TypeId} {x : Operand} (vs : List Value) (i b off : Nat) (cs : List Value) (ty : TypeId) (hZ : b ∈ Z) (hw : Region.wanted o (yielded ops a.tmps) = true) (ho : o.op = .load t x) (hx : a.eval x = .pointer (some ⟨b, off, none⟩)) (ht : ∀ w, (isAgg t).run P w = .ok true w)
    (hs : ∀ w, (sizeOf t).run P w = .ok vs.length w) (hL : L[i]? = some ⟨b, cs, ty⟩) (hv : (cs.drop off).take vs.length = vs) (k : DS P w0 Z ops Q ks rest (a.put o.dst (.agg vs.toArray)) L) : DS P w0 Z ops Q (.lb :: ks) (o :: rest) a L :=
  D_lb (.agg vs.toArray) hw (fun L' hL' w hO => by
    obtain ⟨j, hj⟩ := List.getElem?_of_mem (hL' ⟨b, cs, ty⟩ (List.mem_of_getElem? hL) hZ)
    exact ldN vs j b off cs ty ho hx ht hs hj hv w hO) k
end
end Go.Vk
namespace Go.Vk
theorem id_ne {L : List B} {n b : Nat} (h : ∀ x ∈ L, x.id ≠ n) (k : Nat) (hk : (L.map B.id)[k]? = some b) : b ≠ n := by
  obtain ⟨x, hx, e⟩ := List.mem_map.1 (List.mem_of_getElem? hk)
  rw [← e]; exact h x hx
theorem id_lt {L : List B} {n b : Nat} (h : ∀ x ∈ L, x.id < n) (k : Nat) (hk : (L.map B.id)[k]? = some b) : b ≠ n := id_ne (fun x hx => Nat.ne_of_lt (h x hx)) k hk
end Go.Vk
namespace Go.Vk
open Go Go.RowKit
/-- An address. -/
abbrev pt (b off : Nat) : Value := .pointer (some ⟨b, off, none⟩)
/-- A word. -/
abbrev wd (n : Nat) : Value := .int .u64 (n : Int)
section
variable {P : Program} {w0 : World} {Z : List Nat} {L : List B} {Q : Exit → Act → World → Prop} {a : Act} {ops : Array Oper} {o : Oper} {rest : List Oper} {ks : List Kd}
theorem S_v (v : Value) (k : S P w0 L ops Q rest (a.put o.dst v)) (hw : Region.wanted o (yielded ops a.tmps) = true := by kernel_rfl) (h : ∀ w, Own w0 L w → (execOp a.eval o).run P w = .ok (.value v) w := by intro _ _; kernel_rfl) :
    S P w0 L ops Q (o :: rest) a := S_val v hw h k
theorem D_v (v : Value) (k : DS P w0 Z ops Q ks rest (a.put o.dst v) L) (hw : Region.wanted o (yielded ops a.tmps) = true := by kernel_rfl) (h : ∀ w, (execOp a.eval o).run P w = .ok (.value v) w := by intro _; kernel_rfl) :
    DS P w0 Z ops Q (.pure :: ks) (o :: rest) a L := D_val v hw h k
end
end Go.Vk
