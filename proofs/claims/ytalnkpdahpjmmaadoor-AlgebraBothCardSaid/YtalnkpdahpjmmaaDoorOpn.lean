/- From the row's data to lists in memory: slices of arrays of words; a table of numbers. -/
import Derived.Test.YtalnkpdahpjmmaaDoorInvQ
import Derived.OpenShut
import Derived.Deep.Slices
import Derived.FnData
import Derived.LaidMore
import Derived.MakeChecks
set_option linter.unusedVariables false
set_option linter.unusedSimpArgs false
namespace Go.Vk
open Go Go.RowKit Go.Vk.Num
section
variable {H : Type} {enc : TypeId × Value → H} {P : Program} {w : World} {base : Nat} {sp : Nat → Bool} {held : Bool}

/-- An array of words that reads as data. -/
theorem words_of_trod {t e : TypeId} {n fuel : Nat} {cs : List Value} {x : DataW H × List MemPlace} (ht : P.underlying t = some (.array n e)) (he : P.underlying e = some (.int .u64)) (ce : P.cellsOf e = 1) (ct : P.cellsOf t = n)
    (h : DataW.trod enc P w base sp held fuel t cs = some x) :
    ∃ ks : List Nat, ks.length = n ∧ (∀ k ∈ ks, k < 18446744073709551616) ∧ cs = ks.map (fun k => .int .u64 ((k : Nat) : Int)) ∧ x.1 = .agg (ks.map fun k => .lit (.int .u64 ((k : Nat) : Int))) := by
  obtain ⟨xs, m, rfl, hx, hlen, hxn, hel⟩ := DataW.trod_array ht h
  rw [ct] at hlen
  have each : ∀ i, i < n → ∃ k : Nat, k < 18446744073709551616 ∧ cs[i]? = some (.int .u64 ((k : Nat) : Int)) ∧ (xs.map (·.1))[i]? = some (.lit (.int .u64 ((k : Nat) : Int))) := by
    intro i hi
    have hE := hel i hi
    rw [ce, Nat.mul_one] at hE
    obtain ⟨y, hy⟩ : ∃ y, xs[i]? = some y := ⟨_, List.getElem?_eq_getElem (by omega)⟩
    rw [hy] at hE
    obtain ⟨z, h1, h2, hw⟩ := DataW.trod_int he hE
    simp only [Lit.wf, Bool.and_eq_true, decide_eq_true_eq] at hw
    have hz0 : 0 ≤ z := hw.1
    have hz1 : z ≤ 18446744073709551615 := hw.2
    obtain ⟨k, rfl⟩ := Int.eq_ofNat_of_zero_le hz0
    refine ⟨k, by omega, ?_, ?_⟩
    · have h3 : ((cs.drop i).take 1)[0]? = some (.int .u64 ((k : Nat) : Int)) := by rw [h1]; rfl
      rw [List.getElem?_take] at h3
      simpa using h3
    · rw [List.getElem?_map, hy]; simp [h2]
  have key : ∀ m, m ≤ n → ∃ ks : List Nat, ks.length = m ∧ (∀ k ∈ ks, k < 18446744073709551616) ∧ cs.take m = ks.map (fun k => .int .u64 ((k : Nat) : Int)) ∧ (xs.map (·.1)).take m = ks.map (fun k => .lit (.int .u64 ((k : Nat) : Int))) := by
    intro m
    induction m with
    | zero => intro _; exact ⟨[], rfl, by simp, by simp, by simp⟩
    | succ m ih =>
      intro hm
      obtain ⟨ks, h1, h2, h3, h4⟩ := ih (by omega)
      obtain ⟨k, g1, g2, g3⟩ := each m (by omega)
      refine ⟨ks ++ [k], by simp [h1], ?_, ?_, ?_⟩
      · intro q hq
        rcases List.mem_append.1 hq with hq | hq
        · exact h2 q hq
        · simp at hq; subst hq; exact g1
      · rw [List.take_add_one, g2, h3]; simp
      · rw [List.take_add_one, g3, h4]; simp
  obtain ⟨ks, h1, h2, h3, h4⟩ := key n (Nat.le_refl _)
  refine ⟨ks, h1, h2, ?_, ?_⟩
  · rw [← h3, List.take_of_length_le (by omega)]
  · rw [hx, ← h4, List.take_of_length_le (by simp; omega)]

theorem lb_words {x0 x1 x2 x3 : Nat} (h0 : x0 < 18446744073709551616) (h1 : x1 < 18446744073709551616) (h2 : x2 < 18446744073709551616) (h3 : x3 < 18446744073709551616) :
    ∃ n, n < W256 ∧ lb n 0 = x0 ∧ lb n 1 = x1 ∧ lb n 2 = x2 ∧ lb n 3 = x3 :=
  ⟨x0 + 18446744073709551616 * x1 + 340282366920938463463374607431768211456 * x2 + 6277101735386680763835789423207666416102355444464034512896 * x3, by unfold W256; omega, by unfold lb; omega, by unfold lb; omega, by unfold lb; omega, by unfold lb; omega⟩

/-- The elements of a slice, one by one, by a choice. -/
theorem rd_pick {α : Type} {f : α → List Value} {sz : Nat} (d : α) (p : α → Prop) (a : Addr) (len cap : Nat) (hsz : 0 < sz) (hf : ∀ x, (f x).length = sz) (hd : p d) (h : ∀ i, i < len → ∃ x, p x ∧ ∀ j u, (f x)[j]? = some u → w.cell? ((a.add (i * sz)).add j) = some u) :
    ∃ xs : List α, xs.length = len ∧ (∀ j, p (xs.getD j d)) ∧ Rd w (.slice (some a) len cap) sz f xs := by
  have key : ∀ m, m ≤ len → ∃ xs : List α, xs.length = m ∧ (∀ j, p (xs.getD j d)) ∧ ∀ k x, xs[k]? = some x → ∀ j u, (f x)[j]? = some u → w.cell? ((a.add (k * sz)).add j) = some u := by
    intro m
    induction m with
    | zero => intro _; exact ⟨[], rfl, fun j => by simpa using hd, fun k x hk => by simp at hk⟩
    | succ m ih =>
      intro hm
      obtain ⟨xs, h1, h2, h3⟩ := ih (by omega)
      obtain ⟨x, hx, hc⟩ := h m (by omega)
      refine ⟨xs ++ [x], by simp [h1], fun j => ?_, fun k y hk => ?_⟩
      · rw [List.getD_eq_getElem?_getD]
        by_cases hj : j < xs.length
        · rw [List.getElem?_append_left hj, ← List.getD_eq_getElem?_getD]; exact h2 j
        · rw [List.getElem?_append_right (by omega)]
          by_cases hj2 : j - xs.length = 0
          · rw [hj2]; exact hx
          · rw [List.getElem?_eq_none (by simp; omega)]; exact hd
      · by_cases hj : k < xs.length
        · rw [List.getElem?_append_left hj] at hk; exact h3 k y hk
        · rw [List.getElem?_append_right (by omega)] at hk
          have hj2 : k - xs.length = 0 := by have := (List.getElem?_eq_some_iff.1 hk).1; simp at this; omega
          rw [hj2] at hk
          simp at hk
          subst hk
          have : k = m := by omega
          subst this
          exact hc
  obtain ⟨xs, h1, h2, h3⟩ := key len (Nat.le_refl _)
  refine ⟨xs, h1, h2, some a, cap, by rw [h1], fun k x hk => ?_⟩
  obtain ⟨b, off, s⟩ := a
  have h0lt : 0 < xs.length := by have := (List.getElem?_eq_some_iff.1 hk).1; omega
  have hlen : 0 < (f xs[0]).length := by rw [hf]; exact hsz
  have h0 := h3 0 xs[0] (List.getElem?_eq_getElem h0lt) 0 _ (List.getElem?_eq_getElem hlen)
  have hs : s = none := by
    cases s with
    | none => rfl
    | some q => simp [Addr.add, World.cell?] at h0; split at h0 <;> simp_all
  subst hs
  refine ⟨b, off, rfl, fun j u hu => ?_⟩
  have := h3 k x hk j u hu
  rw [add_none, add_none] at this
  exact this

/-- A slice of arrays of four words. -/
theorem open4 {t e u : TypeId} {fuel : Nat} {a : Option Addr} {len cap : Nat} {x : DataW H × List MemPlace} (ht : P.underlying t = some (.slice e)) (he : P.underlying e = some (.array 4 u)) (hu : P.underlying u = some (.int .u64)) (ce : P.cellsOf e = 4) (cu : P.cellsOf u = 1)
    (h : DataW.trod enc P w base sp held fuel t (Value.slice a len cap).cells.toList = some x) :
    ∃ zs : List Nat, zs.length = len ∧ len ≤ cap ∧ (∀ j, zs.getD j 0 < W256) ∧ Rd w (.slice a len cap) 4 fs4 zs := by
  have hcs : (Value.slice a len cap).cells.toList = [.slice a len cap] := rfl
  rw [hcs] at h
  rcases Go.Deep.open_slice ht h with ⟨h1, _⟩ | ⟨a', len', cap', m, n, D, Pl, h1, hb, hl, hm, hmm, hx, hel⟩
  · simp at h1
    obtain ⟨rfl, rfl, rfl⟩ := h1
    exact ⟨[], rfl, Nat.le_refl _, fun j => by simp [W256], Rd.nil⟩
  · simp at h1
    obtain ⟨rfl, rfl, rfl⟩ := h1
    have hlm : len ≤ m := by rw [hmm]; split <;> omega
    obtain ⟨zs, g1, g2, g3⟩ := rd_pick (f := fs4) 0 (fun n => n < W256) a' len cap (by decide) fs4_len (by decide) (fun i hi => by
      obtain ⟨cs', h2, h3⟩ := hel i (by omega)
      rw [ce] at h2
      obtain ⟨ks, k1, k2, k3, _⟩ := words_of_trod he hu cu ce h3
      match ks, k1, k2, k3 with
      | [x0, x1, x2, x3], _, k2, k3 =>
        obtain ⟨n, hn, l0, l1, l2, l3⟩ := lb_words (k2 x0 (by simp)) (k2 x1 (by simp)) (k2 x2 (by simp)) (k2 x3 (by simp))
        refine ⟨n, hn, fun j u hu => ?_⟩
        have hc := (World.cells?_some h2).2.2
        have hj : j < 4 := by have := (List.getElem?_eq_some_iff.1 hu).1; rw [fs4_len] at this; exact this
        rw [hc j hj, k3, ← hu]
        unfold fs4; rw [l0, l1, l2, l3]; rfl)
    exact ⟨zs, g1, hl, g2, g3⟩
/-- A slice of arrays of five words. -/
theorem open5 {t e u : TypeId} {fuel : Nat} {a : Option Addr} {len cap : Nat} {x : DataW H × List MemPlace} (ht : P.underlying t = some (.slice e)) (he : P.underlying e = some (.array 5 u)) (hu : P.underlying u = some (.int .u64)) (ce : P.cellsOf e = 5) (cu : P.cellsOf u = 1)
    (h : DataW.trod enc P w base sp held fuel t (Value.slice a len cap).cells.toList = some x) :
    ∃ ys : List F5, ys.length = len ∧ len ≤ cap ∧ (∀ j, (ys.getD j F5.z).ok) ∧ Rd w (.slice a len cap) 5 ff5 ys := by
  have hcs : (Value.slice a len cap).cells.toList = [.slice a len cap] := rfl
  rw [hcs] at h
  rcases Go.Deep.open_slice ht h with ⟨h1, _⟩ | ⟨a', len', cap', m, n, D, Pl, h1, hb, hl, hm, hmm, hx, hel⟩
  · simp at h1
    obtain ⟨rfl, rfl, rfl⟩ := h1
    exact ⟨[], rfl, Nat.le_refl _, fun j => by simpa using F5.z_ok, Rd.nil⟩
  · simp at h1
    obtain ⟨rfl, rfl, rfl⟩ := h1
    have hlm : len ≤ m := by rw [hmm]; split <;> omega
    obtain ⟨zs, g1, g2, g3⟩ := rd_pick (f := ff5) F5.z F5.ok a' len cap (by decide) ff5_len F5.z_ok (fun i hi => by
      obtain ⟨cs', h2, h3⟩ := hel i (by omega)
      rw [ce] at h2
      obtain ⟨ks, k1, k2, k3, _⟩ := words_of_trod he hu cu ce h3
      match ks, k1, k2, k3 with
      | [x0, x1, x2, x3, x4], _, k2, k3 =>
        refine ⟨⟨x0, x1, x2, x3, x4⟩, ⟨k2 x0 (by simp), k2 x1 (by simp), k2 x2 (by simp), k2 x3 (by simp), k2 x4 (by simp)⟩, fun j u hu => ?_⟩
        have hc := (World.cells?_some h2).2.2
        have hj : j < 5 := by have := (List.getElem?_eq_some_iff.1 hu).1; rw [ff5_len] at this; exact this
        rw [hc j hj, k3, ← hu]
        rfl)
    exact ⟨zs, g1, hl, g2, g3⟩

/-- A table of arrays of words whose data are known. -/
theorem table_of_trod {t e u : TypeId} {n k fuel : Nat} {cs : List Value} {x : DataW H × List MemPlace} (ht : P.underlying t = some (.array n e)) (he : P.underlying e = some (.array k u)) (hu : P.underlying u = some (.int .u64)) (ct : P.cellsOf t = n * k) (ce : P.cellsOf e = k) (cu : P.cellsOf u = 1)
    (h : DataW.trod enc P w base sp held fuel t cs = some x) (T : List (List Nat)) (hT : x.1 = .agg (T.map fun r => .agg (r.map fun k => .lit (.int .u64 ((k : Nat) : Int))))) :
    cs = T.flatMap fun r => r.map fun k => .int .u64 ((k : Nat) : Int) := by
  obtain ⟨xs, m, rfl, hx, hlen, hxn, hel⟩ := DataW.trod_array ht h
  rw [ct] at hlen
  rw [hx] at hT
  simp only [DataW.agg.injEq] at hT
  have hTn : T.length = n := by have := congrArg List.length hT; simpa [hxn] using this.symm
  have each : ∀ i, i < n → (cs.drop (i * k)).take k = ((T.getD i []).map fun k => .int .u64 ((k : Nat) : Int)) := by
    intro i hi
    have hE := hel i hi
    rw [ce] at hE
    obtain ⟨y, hy⟩ : ∃ y, xs[i]? = some y := ⟨_, List.getElem?_eq_getElem (by omega)⟩
    rw [hy] at hE
    obtain ⟨ks, k1, k2, k3, k4⟩ := words_of_trod he hu cu ce hE
    have h5 := congrArg (fun l => l[i]?) hT
    simp only [List.getElem?_map, hy, Option.map_some] at h5
    rw [k4] at h5
    have hTi : T[i]? = some (T.getD i []) := by rw [List.getD_eq_getElem?_getD, List.getElem?_eq_getElem (by omega)]; rfl
    rw [hTi] at h5
    simp only [Option.map_some, Option.some.injEq, DataW.agg.injEq] at h5
    have h6 : ks = T.getD i [] := by
      have inj : Function.Injective (fun k : Nat => (DataW.lit (.int .u64 ((k : Nat) : Int)) : DataW H)) := by
        intro p q hpq
        simp only [DataW.lit.injEq, Lit.int.injEq, true_and] at hpq
        exact Int.ofNat.inj hpq
      exact (List.map_inj_right (fun _ _ h => inj h)).1 h5
    rw [k3, h6]
  have key : ∀ m, m ≤ n → cs.take (m * k) = (T.take m).flatMap fun r => r.map fun k => .int .u64 ((k : Nat) : Int) := by
    intro m
    induction m with
    | zero => intro _; simp
    | succ m ih =>
      intro hm
      have hTi : T.take (m + 1) = T.take m ++ [T.getD m []] := by
        rw [List.take_add_one]
        rw [List.getD_eq_getElem?_getD, List.getElem?_eq_getElem (by omega)]; rfl
      rw [hTi, List.flatMap_append, ← ih (by omega), Nat.succ_mul, List.take_add, each m (by omega)]
      simp
  have := key n (Nat.le_refl _)
  rw [List.take_of_length_le (by omega), List.take_of_length_le (by omega)] at this
  exact this
end
end Go.Vk
