/- Slices: such as are read, such as grow. Small arithmetic. -/
import Derived.Test.YtalnkpdahpjmmaaDoorVo
set_option linter.unusedVariables false
set_option linter.unusedSimpArgs false
namespace Go.Vk
open Go Go.RowKit

theorem w64 {x y : Int} (h : x = y) (h1 : -9223372036854775808 ≤ y) (h2 : y ≤ 9223372036854775807) : IntKind.i64.wrap x = y := by
  subst h; rw [IntKind.wrap_i64]; omega
theorem wu64 {x y : Int} (h : x = y) (h1 : 0 ≤ y) (h2 : y ≤ 18446744073709551615) : IntKind.u64.wrap x = y := by
  subst h; rw [IntKind.wrap_u64]; omega
theorem vint {k : IntKind} {x y : Int} (h : x = y) : Value.int k x = Value.int k y := by rw [h]
theorem vbool {x y : Bool} (h : x = y) : Value.bool x = Value.bool y := by rw [h]

/-- The slice v reads as xs: each element takes sz cells, f's. -/
def Rd {α : Type} (w : World) (v : Value) (sz : Nat) (f : α → List Value) (xs : List α) : Prop :=
  ∃ ao cap, v = .slice ao xs.length cap ∧ ∀ k x, xs[k]? = some x → ∃ b off, ao = some ⟨b, off, none⟩ ∧ ∀ j u, (f x)[j]? = some u → w.cell? ⟨b, off + k * sz + j, none⟩ = some u

/-- The slice v has its own array: n elements, the cells xs; ob: its block, if it has one. -/
def Rw (e : TypeId) (sz : Nat) (v : Value) (n : Nat) (xs : List Value) (ob : List B) : Prop :=
  xs.length = n * sz ∧ ((v = .slice none 0 0 ∧ n = 0 ∧ ob = []) ∨
    ∃ g cap sp, v = .slice (some ⟨g, 0, none⟩) n cap ∧ ob = [⟨g, xs ++ sp, e⟩] ∧ n ≤ cap ∧ cap ≤ maxLen ∧ (xs ++ sp).length = cap * sz)

theorem Rw.nil (e : TypeId) (sz : Nat) : Rw e sz (.slice none 0 0) 0 [] [] := ⟨by simp, .inl ⟨rfl, rfl, rfl⟩⟩
theorem Rw.len {e : TypeId} {sz : Nat} {v : Value} {n : Nat} {xs : List Value} {ob : List B} (h : Rw e sz v n xs ob) : ∃ ao cap, v = .slice ao n cap := by
  rcases h with ⟨_, ⟨rfl, rfl, _⟩ | ⟨g, cap, sp, rfl, _⟩⟩
  · exact ⟨_, _, rfl⟩
  · exact ⟨_, _, rfl⟩

section
variable {P : Program} {w0 : World} {Z : List Nat} {L L1 L2 : List B}

theorem Own.row {w : World} {ob : List B} {e : TypeId} {sz : Nat} {v : Value} {n : Nat} {xs : List Value} (h : Own w0 L w) (hs : ob.Sublist L) (hr : Rw e sz v n xs ob) : w.ownsRow w0.heap.size e sz v n xs := by
  refine ⟨hr.1, ?_⟩
  rcases hr.2 with ⟨rfl, rfl, rfl⟩ | ⟨g, cap, sp, rfl, rfl, h1, h2, h3⟩
  · exact .inl ⟨rfl, rfl⟩
  · have hm : (⟨g, xs ++ sp, e⟩ : B) ∈ L := hs.subset (by simp)
    refine .inr ⟨g, cap, _, rfl, h.fresh _ hm, h.blk _ hm, h1, h2, by simpa using h3, ?_⟩
    rw [← hr.1]; simp

/-- Reading an own row. -/
theorem Rw.rd {α : Type} {w : World} {ob : List B} {e : TypeId} {sz : Nat} {v : Value} {xs : List α} {f : α → List Value} (hf : ∀ x, (f x).length = sz) (hr : Rw e sz v xs.length (xs.flatMap f) ob) (h : Own w0 L w) (hs : ob.Sublist L) : Rd w v sz f xs := by
  have flat : ∀ (xs : List α) (k : Nat) (x : α), xs[k]? = some x → ∀ (sp : List Value) (j : Nat) (u : Value), (f x)[j]? = some u → (xs.flatMap f ++ sp)[k * sz + j]? = some u := by
    intro xs
    induction xs with
    | nil => intro k x hx; simp at hx
    | cons y ys ih =>
      intro k x hx sp j u hu
      rw [List.flatMap_cons, List.append_assoc]
      cases k with
      | zero =>
        simp at hx; subst hx
        have hj : j < (f y).length := (List.getElem?_eq_some_iff.1 hu).1
        rw [Nat.zero_mul, Nat.zero_add, List.getElem?_append_left hj]; exact hu
      | succ k =>
        have := ih k x (by simpa using hx) sp j u hu
        rw [List.getElem?_append_right (by rw [hf y, Nat.succ_mul]; omega), hf y]
        rw [show (k + 1) * sz + j - sz = k * sz + j by rw [Nat.succ_mul]; omega]
        exact this
  rcases hr.2 with ⟨rfl, hn, rfl⟩ | ⟨g, cap, sp, rfl, rfl, h1, h2, h3⟩
  · refine ⟨none, 0, by rw [hn], fun k x hx => ?_⟩
    have : xs = [] := List.eq_nil_of_length_eq_zero hn
    subst this; simp at hx
  · have hm : (⟨g, xs.flatMap f ++ sp, e⟩ : B) ∈ L := hs.subset (by simp)
    refine ⟨_, cap, rfl, fun k x hx => ⟨g, 0, rfl, fun j u hu => ?_⟩⟩
    rw [cell_of_row w g _ _ _ _ (h.blk _ hm)]
    simpa using flat xs k x hx sp j u hu
theorem Rd.below {α : Type} {w w' : World} {v : Value} {sz : Nat} {f : α → List Value} {xs : List α} (h : Rd w v sz f xs) (hb : Below w.heap.size w w') : Rd w' v sz f xs := by
  obtain ⟨ao, cap, e, hx⟩ := h
  refine ⟨ao, cap, e, fun k x hk => ?_⟩
  obtain ⟨b, off, h1, h2⟩ := hx k x hk
  exact ⟨b, off, h1, fun j u hu => by have := h2 j u hu; rw [hb.cell (block_lt_of_cell this)]; exact this⟩
theorem Rd.own {α : Type} {w : World} {v : Value} {sz : Nat} {f : α → List Value} {xs : List α} (h : Rd w0 v sz f xs) (hO : Own w0 L w) : Rd w v sz f xs := h.below hO.below

theorem Own.drew' {w : World} (h : Own w0 L w) : Own w0 L w.drew := h.drew
/-- A new block in the place of an old one. -/
theorem Own.anew {w : World} {ob : List B} (h : Own w0 (L1 ++ ob ++ L2) w) (cs : List Value) (ty : TypeId) : Own w0 (L1 ++ [⟨w.heap.size, cs, ty⟩] ++ L2) (w.alloc (.cells cs.toArray ty)) := by
  have h1 := h.alloc cs ty
  have h2 : Own w0 (⟨w.heap.size, cs, ty⟩ :: (L1 ++ L2)) (w.alloc (.cells cs.toArray ty)) := h1.sub (by
    refine List.Sublist.cons_cons _ ?_
    rw [List.append_assoc]
    exact List.Sublist.append (List.Sublist.refl _) (List.sublist_append_right _ _))
  refine h2.perm ?_
  simp only [List.append_assoc, List.singleton_append]
  exact List.perm_middle

/-- append(v, x) to an own row. -/
theorem own_app (t ty e : TypeId) (i : TypeInfo) (z : Value) (ht : P.underlying t = some (.slice e)) (hi : P.info? e = some i) (hz : i.zero = some z) (hzs : z.cells.size = i.size)
    {v : Value} {n : Nat} {xs : List Value} {ob : List B} (hr : Rw e i.size v n xs ob) {w : World} (h : Own w0 (L1 ++ ob ++ L2) w) (ad : Addr) (m c : Nat) (news : List Value) (hl : news.length = m * i.size)
    (hnews : ∀ j u, news[j]? = some u → w.cell? (ad.add j) = some u) (h1 : ∀ u ∈ news, u.oneCell' = true) (hm : 0 < m) (hbytes : (n + m) * i.bytes ≤ 140737488355328) (h63 : n + m ≤ maxLen) :
    ∃ v' w' ob', (Builtin.append_ #[t, t] ty #[v, .slice (some ad) m c]).run P w = .ok v' w' ∧ Rw e i.size v' (n + m) (xs ++ news) ob' ∧ Own w0 (L1 ++ ob' ++ L2) w' := by
  have hsmall : n + m ≤ 9223372036854775807 := by simp only [maxLen] at h63; omega
  have hlen : (xs ++ news).length = (n + m) * i.size := by rw [List.length_append, hr.1, hl, Nat.add_mul]
  have new : ∀ (old : Nat), old < n + m → Rw e i.size (.slice (some ⟨w.heap.size, 0, none⟩) (n + m) (grownCap w (n + m) old e)) (n + m) (xs ++ news)
      [⟨w.heap.size, xs ++ news ++ (Builtin.zeroCells z.cells (grownCap w (n + m) old e - (n + m))).toList, e⟩] := fun old _ => by
    have hge := grownCap_ge w (n + m) old e
    refine ⟨hlen, .inr ⟨_, _, _, rfl, rfl, hge, grownCap_le_maxLen w _ _ _ h63, ?_⟩⟩
    rw [List.length_append, hlen, Array.length_toList, size_zeroCells, hzs, ← Nat.add_mul]
    congr 1; omega
  have newO : ∀ old, Own w0 (L1 ++ [⟨w.heap.size, xs ++ news ++ (Builtin.zeroCells z.cells (grownCap w (n + m) old e - (n + m))).toList, e⟩] ++ L2)
      (w.drew.alloc (.cells (xs.toArray ++ news.toArray ++ Builtin.zeroCells z.cells (grownCap w (n + m) old e - (n + m))) e)) := fun old => by
    have := h.drew'.anew (xs ++ news ++ (Builtin.zeroCells z.cells (grownCap w (n + m) old e - (n + m))).toList) e
    have e1 : (xs.toArray ++ news.toArray ++ Builtin.zeroCells z.cells (grownCap w (n + m) old e - (n + m))) = (xs ++ news ++ (Builtin.zeroCells z.cells (grownCap w (n + m) old e - (n + m))).toList).toArray := by
      apply Array.ext'
      simp
    rw [e1]
    exact this
  rcases hr.2 with ⟨rfl, rfl, rfl⟩ | ⟨g, cap, sp, rfl, rfl, h2, h3, h4⟩
  · have hx : xs = [] := List.eq_nil_of_length_eq_zero (by simpa using hr.1)
    subst hx
    have hrun := run_append_nil (P := P) w t ty e i z ht hi hz ad m c news hl hnews hm (by omega) (by have hb := hbytes; simp only [Nat.zero_add] at hb; omega)
    have a1 := new 0 (by omega)
    have a2 := newO 0
    simp only [Nat.zero_add, List.nil_append, Array.empty_append] at a1 a2 ⊢
    exact ⟨_, _, _, hrun, a1, a2⟩
  · by_cases hroom : n + m ≤ cap
    · have hO : Own w0 (L1 ++ ⟨g, xs ++ sp, e⟩ :: L2) w := by simpa using h
      have hg := hO.blk ⟨g, xs ++ sp, e⟩ (by simp)
      have hfit : n * i.size + news.length ≤ (xs ++ sp).toArray.size := by
        simp only [List.size_toArray]; rw [h4, hl, ← Nat.add_mul]; exact Nat.mul_le_mul_right _ hroom
      have hrun := run_append_room (P := P) w t ty e i ht hi g n cap _ hg ad m c news hl hnews h1 hroom hfit
      have hcs : (xs ++ sp).toArray.toList.take (n * i.size) ++ news ++ (xs ++ sp).toArray.toList.drop (n * i.size + news.length) = xs ++ news ++ sp.drop news.length := by
        simp only [← hr.1, List.take_left, List.drop_append]
        simp
      rw [hcs] at hrun
      refine ⟨_, _, [⟨g, xs ++ news ++ sp.drop news.length, e⟩], hrun, ⟨hlen, .inr ⟨g, cap, _, rfl, rfl, hroom, h3, ?_⟩⟩, ?_⟩
      · have h5 := h4
        simp only [List.length_append, List.length_drop] at h5 ⊢
        rw [← h5]
        have : news.length ≤ sp.length := by
          have := hfit
          simp only [List.size_toArray, List.length_append] at this
          have h6 := hr.1
          omega
        omega
      · have := hO.set (xs ++ news ++ sp.drop news.length)
        simpa using this
    · have hO : Own w0 (L1 ++ ⟨g, xs ++ sp, e⟩ :: L2) w := by simpa using h
      have hg := hO.blk ⟨g, xs ++ sp, e⟩ (by simp)
      have holds : ∀ j u, xs[j]? = some u → w.cell? ((⟨g, 0, none⟩ : Addr).add j) = some u := fun j u hj => by
        rw [add_none, Nat.zero_add, cell_of_row w g j _ _ _ hg]
        have hlt := (List.getElem?_eq_some_iff.1 hj).1
        simp only [List.getElem?_toArray]
        rw [List.getElem?_append_left hlt]; exact hj
      have hrun := run_append_grow (P := P) w t ty e i z ht hi hz ⟨g, 0, none⟩ n cap xs hr.1 holds ad m c news hl hnews (by omega) (by omega) (growslice_fits (by omega) hbytes)
      exact ⟨_, _, _, hrun, new cap (by omega), newO cap⟩
end
end Go.Vk
namespace Go.Vk
open Go Go.RowKit
section
variable {P : Program} {w0 : World} {Z : List Nat} {L L1 L2 : List B} {Q : Exit → Act → World → Prop} {a : Act} {ops : Array Oper} {o : Oper} {rest : List Oper} {ks : List Kd}

/-- An effect of whatever kind. -/
theorem S_eff {ι : Type} (v : ι → Value) (M : ι → List B) (hw : Region.wanted o (yielded ops a.tmps) = true) (h : ∀ w, Own w0 L w → Upon P w0 v M ((execOp a.eval o).run P w))
    (k : ∀ x, S P w0 (M x) ops Q rest (a.put o.dst (v x))) : S P w0 L ops Q (o :: rest) a := by
  refine ⟨fun w hO => ?_⟩
  unfold wpList
  rw [if_pos hw]
  refine .inl ?_
  unfold Oper.wp
  have hup := h w hO
  generalize (execOp a.eval o).run P w = r at hup
  cases r with
  | halt x w' => exact hup.elim
  | ok n w' =>
    cases n <;> simp only [Upon] at hup
    case value u => obtain ⟨x, rfl, hO'⟩ := hup; exact (k x).go _ hO'
    case skip => obtain ⟨x, hx, hO'⟩ := hup; rw [Oper.upon_skip, ← hx]; exact (k x).go _ hO'
    case enter f args =>
      rw [Oper.upon_enter]
      refine hup.mono ?_
      rintro e w'' ⟨x, rfl, hO'⟩
      exact (k x).go _ hO'
theorem D_eff {ι : Type} (ne : Nonempty ι) (v : ι → Value) (M : ι → List B) (hw : Region.wanted o (yielded ops a.tmps) = true) (h : ∀ w, Own w0 L w → Upon P w0 v M ((execOp a.eval o).run P w))
    (k : ∀ x, DS P w0 Z ops Q ks rest (a.put o.dst (v x)) (M x)) : DS P w0 Z ops Q (.eff :: ks) (o :: rest) a L := by
  unfold DS
  exact ⟨ι, ne, v, M, .inl ⟨hw, h⟩, k⟩
/-- There are more own blocks. -/
theorem D_giv {ι : Type} (ne : Nonempty ι) (v : ι → Value) (M : ι → List B) (hp : ∀ x, ∃ ob, (M x).Perm (ob ++ L)) (hw : Region.wanted o (yielded ops a.tmps) = true) (h : ∀ w, Own w0 L w → Upon P w0 v M ((execOp a.eval o).run P w))
    (k : ∀ x, DS P w0 Z ops Q ks rest (a.put o.dst (v x)) (M x)) : DS P w0 Z ops Q (.giv :: ks) (o :: rest) a L := by
  unfold DS
  exact ⟨ι, ne, v, M, .inl ⟨hw, hp, h⟩, k⟩
/-- A new block; the value that names it. -/
theorem S_newv (mk : Nat → Value) (cs : List Value) (ty : TypeId) (hw : Region.wanted o (yielded ops a.tmps) = true) (h : ∀ w, Own w0 L w → (execOp a.eval o).run P w = .ok (.value (mk w.heap.size)) (w.alloc (.cells cs.toArray ty)))
    (k : ∀ n, (∀ x ∈ L, x.id < n) → w0.heap.size ≤ n → S P w0 (⟨n, cs, ty⟩ :: L) ops Q rest (a.put o.dst (mk n))) : S P w0 L ops Q (o :: rest) a := by
  refine ⟨fun w hO => ?_⟩
  unfold wpList
  rw [if_pos hw]
  refine .inl ?_
  unfold Oper.wp
  rw [h w hO]
  exact (k _ (fun x hx => hO.lt hx) hO.below.size).go _ (hO.alloc cs ty)
theorem D_newv (mk : Nat → Value) (cs : List Value) (ty : TypeId) (hw : Region.wanted o (yielded ops a.tmps) = true) (h : ∀ w, Own w0 L w → (execOp a.eval o).run P w = .ok (.value (mk w.heap.size)) (w.alloc (.cells cs.toArray ty)))
    (k : ∀ n, (∀ x ∈ L, x.id < n) → w0.heap.size ≤ n → DS P w0 Z ops Q ks rest (a.put o.dst (mk n)) (⟨n, cs, ty⟩ :: L)) : DS P w0 Z ops Q (.eff :: ks) (o :: rest) a L := by
  obtain ⟨m, m1, m2⟩ := above L w0.heap.size
  exact D_eff (ι := { n : Nat // (∀ x ∈ L, x.id < n) ∧ w0.heap.size ≤ n }) ⟨⟨m, m1, m2⟩⟩ (fun n => mk n.1) (fun n => ⟨n.1, cs, ty⟩ :: L) hw
    (fun w hO => by rw [h w hO]; exact ⟨⟨w.heap.size, fun x hx => hO.lt hx, hO.below.size⟩, rfl, hO.alloc cs ty⟩) fun n => k n.1 n.2.1 n.2.2

/-- append of what lies in own blocks. -/
theorem up_app (t e : TypeId) (i : TypeInfo) (z : Value) (ht : P.underlying t = some (.slice e)) (hi : P.info? e = some i) (hz : i.zero = some z) (hzs : z.cells.size = i.size)
    {s x : Operand} (ho : o.op = .call { callee := .builtin .append, args := #[s, x], argTypes := #[t, t] }) {v : Value} {n : Nat} {xs : List Value} {ob : List B} (hr : Rw e i.size v n xs ob) (hL : L1 ++ ob ++ L2 = L)
    (ad : Addr) (m c : Nat) (news : List Value) (hs : a.eval s = v) (hx : a.eval x = .slice (some ad) m c) (hl : news.length = m * i.size)
    (hnews : ∀ w, Own w0 L w → ∀ j u, news[j]? = some u → w.cell? (ad.add j) = some u) (h1 : ∀ u ∈ news, u.oneCell' = true) (hm : 0 < m) (hbytes : (n + m) * i.bytes ≤ 140737488355328) (h63 : n + m ≤ maxLen) :
    ∀ w, Own w0 L w → Upon P w0 (fun p : { p : Value × List B // Rw e i.size p.1 (n + m) (xs ++ news) p.2 } => p.1.1) (fun p => L1 ++ p.1.2 ++ L2) ((execOp a.eval o).run P w) := fun w hO => by
  obtain ⟨v', w', ob', h2, h3, h4⟩ := own_app (P := P) t o.type e i z ht hi hz hzs hr (hL ▸ hO) ad m c news hl (hnews w hO) h1 hm hbytes h63
  have : (execOp a.eval o).run P w = .ok (.value v') w' := by
    unfold execOp
    simp only [ho, resolve, invoke, builtin, Sem.run_bind, Sem.run_pure, Result.andThen_ok, List.map_toArray, List.map_cons, List.map_nil, hs, hx, h2]
  rw [this]
  exact ⟨⟨(v', ob'), h3⟩, rfl, h4⟩
theorem Rw.inh {e : TypeId} {sz n m : Nat} {xs news : List Value} (h1 : xs.length = n * sz) (h2 : news.length = m * sz) (h63 : n + m ≤ maxLen) : Nonempty { p : Value × List B // Rw e sz p.1 (n + m) (xs ++ news) p.2 } :=
  ⟨⟨(.slice (some ⟨0, 0, none⟩) (n + m) (n + m), [⟨0, xs ++ news ++ [], e⟩]), by
    have hl : (xs ++ news).length = (n + m) * sz := by rw [List.length_append, h1, h2, Nat.add_mul]
    exact ⟨hl, .inr ⟨0, n + m, [], rfl, rfl, Nat.le_refl _, h63, by simpa using hl⟩⟩⟩⟩
theorem S_app (N : List B → List B) {e : TypeId} {sz n : Nat} {xs : List Value} (hN : ∀ ob', L1 ++ ob' ++ L2 = N ob') (hw : Region.wanted o (yielded ops a.tmps) = true)
    (h : ∀ w, Own w0 L w → Upon P w0 (fun p : { p : Value × List B // Rw e sz p.1 n xs p.2 } => p.1.1) (fun p => L1 ++ p.1.2 ++ L2) ((execOp a.eval o).run P w))
    (k : ∀ v' ob', Rw e sz v' n xs ob' → S P w0 (N ob') ops Q rest (a.put o.dst v')) : S P w0 L ops Q (o :: rest) a :=
  S_eff _ _ hw h fun p => by rw [hN]; exact k _ _ p.2
theorem D_app (N : List B → List B) {e : TypeId} {sz n : Nat} {xs : List Value} (ne : Nonempty { p : Value × List B // Rw e sz p.1 n xs p.2 }) (hN : ∀ ob', L1 ++ ob' ++ L2 = N ob') (hw : Region.wanted o (yielded ops a.tmps) = true)
    (h : ∀ w, Own w0 L w → Upon P w0 (fun p : { p : Value × List B // Rw e sz p.1 n xs p.2 } => p.1.1) (fun p => L1 ++ p.1.2 ++ L2) ((execOp a.eval o).run P w))
    (k : ∀ v' ob', Rw e sz v' n xs ob' → DS P w0 Z ops Q ks rest (a.put o.dst v') (N ob')) : DS P w0 Z ops Q (.eff :: ks) (o :: rest) a L :=
  D_eff ne _ _ hw h fun p => by rw [hN]; exact k _ _ p.2

/-- make([]T, n). -/
theorem mk {t e : TypeId} {i : TypeInfo} {z : Value} {x y : Operand} {kl kc : IntKind} (n c : Nat) (ht : P.underlying t = some (.slice e)) (hi : P.info? e = some i) (hz : i.zero = some z) (ho : o.op = .makeSlice t x y)
    (hx : a.eval x = .int kl (n : Int)) (hy : a.eval y = .int kc (c : Int)) (hnc : n ≤ c) (hb : i.bytes * c ≤ 281474976710656) (hm : c ≤ 9223372036854775807) (cs : List Value) (hcs : madeCells z.cells (c * i.size) = cs.toArray) :
    ∀ w, Own w0 L w → (execOp a.eval o).run P w = .ok (.value (.slice (some ⟨w.heap.size, 0, none⟩) n c)) (w.alloc (.cells cs.toArray e)) := fun w _ => by
  have hb' : (i.bytes : Int) * (c : Int) ≤ 281474976710656 := by
    have h : ((i.bytes * c : Nat) : Int) ≤ 281474976710656 := by omega
    rwa [Int.natCast_mul] at h
  have hr := run_make (P := P) w t e i z ht hi hz kl kc n c (by omega) (by omega) hb' (by omega)
  simp only [Int.toNat_natCast, hcs] at hr
  unfold execOp
  simp only [ho, hx, hy, Sem.run_bind, hr, Result.andThen_ok, Sem.run_pure]
theorem madeCells1 (z : Value) (n : Nat) (hz : z.cells = #[z]) : madeCells z.cells (n * 1) = (List.replicate n z).toArray := by
  apply Array.ext'
  rw [hz, toList_madeCells_one, Nat.mul_one]
theorem mapi_congr {α : Type} {n : Nat} {f g : Nat → α} (h : ∀ i, i < n → f i = g i) : (List.range n).map f = (List.range n).map g := List.map_congr_left fun i hi => h i (List.mem_range.1 hi)
theorem madeCellsN (zs : List Value) (n : Nat) : madeCells zs.toArray (n * zs.length) = ((List.replicate n zs).flatten).toArray := by
  apply Array.ext'
  unfold madeCells
  apply List.ext_getElem?
  intro j
  by_cases hz : zs.length = 0
  · have : zs = [] := List.eq_nil_of_length_eq_zero hz
    subst this
    simp
  have key : ∀ n j, j < n * zs.length → (List.replicate n zs).flatten[j]? = zs[j % zs.length]? := by
    intro n
    induction n with
    | zero => intro j hj; simp at hj
    | succ n ih =>
      intro j hj
      rw [List.replicate_succ, List.flatten_cons]
      by_cases hlt : j < zs.length
      · rw [List.getElem?_append_left hlt, Nat.mod_eq_of_lt hlt]
      · rw [List.getElem?_append_right (by omega), ih (j - zs.length) (by rw [Nat.succ_mul] at hj; omega)]
        congr 1
        exact (Nat.mod_eq_sub_mod (by omega)).symm
  by_cases hj : j < n * zs.length
  · rw [key n j hj]
    have hm : j % zs.length < zs.length := Nat.mod_lt _ (by omega)
    simp [hj, hm]
  · have h2 : (List.replicate n zs).flatten.length ≤ j := by simp; omega
    simp [hj]

/-- A slice of a slice. -/
theorem sl {t e : TypeId} {x : Operand} {lo hi : Option Operand} {b off len cap : Nat} {sz l h : Nat} (ht : P.underlying t = some (.slice e)) (hs : ∀ w, (sizeOf e).run P w = .ok sz w) (ho : o.op = .slice t x lo hi none) (hx : a.eval x = .slice (some ⟨b, off, none⟩) len cap)
    (hlo : lo.map a.eval = Option.none ∧ l = 0 ∨ ∃ k, lo.map a.eval = Option.some (.int k (l : Int))) (hhi : hi.map a.eval = Option.none ∧ h = len ∨ ∃ k, hi.map a.eval = Option.some (.int k (h : Int))) (h1 : l ≤ h) (h2 : h ≤ cap) (h3 : l < cap ∨ l = 0) (hlen : len ≤ cap) :
    ∀ w, (execOp a.eval o).run P w = .ok (.value (.slice (some ⟨b, off + l * sz, none⟩) (h - l) (cap - l))) w := fun w => by
  have hb : (Instr.sliceBounds true len cap (lo.map a.eval) (hi.map a.eval) none).run P w = .ok (l, h, cap) w := by
    have bd : ∀ (k : IntKind) (i y : Nat) (c : BoundsCode), i ≤ y → (Instr.sliceBound (.int k (i : Int)) y c).run P w = .ok i w := fun k i y c hiy => by
      rw [run_sliceBound w k i y c (by omega) (by omega)]; simp
    unfold Instr.sliceBounds
    rcases hlo with ⟨e1, rfl⟩ | ⟨k1, e1⟩ <;> rcases hhi with ⟨e2, rfl⟩ | ⟨k2, e2⟩ <;> rw [e1, e2] <;> simp [Sem.run_bind, bd, h1, h2]
  have hu : (underlying t).run P w = .ok (.slice e) w := run_underlying ht w
  have hadd : (if cap = l then (some ⟨b, off, none⟩ : Option Addr) else (some (⟨b, off, none⟩ : Addr)).map (·.add (l * sz))) = some ⟨b, off + l * sz, none⟩ := by
    rcases h3 with h3 | h3
    · rw [if_neg (by omega)]; simp [add_none]
    · subst h3; simp [Addr.add]
  have hr : (Instr.sliceAt t (.slice (some ⟨b, off, none⟩) len cap) (lo.map a.eval) (hi.map a.eval) none).run P w = .ok (.slice (some ⟨b, off + l * sz, none⟩) (h - l) (cap - l)) w := by
    unfold Instr.sliceAt
    simp only [Sem.run_bind, hu, Result.andThen_ok]
    unfold Instr.slice
    simp only [Sem.run_bind, hu, Result.andThen_ok, hb, hs, Sem.run_pure]
    rw [← hadd]
  unfold execOp
  simp only [ho, hx, Option.map_none, Sem.run_bind, hr, Result.andThen_ok, Sem.run_pure]
end
end Go.Vk
