/- Lists in memory, element by element. -/
import Derived.Test.YtalnkpdahpjmmaaDoorVr
set_option linter.unusedVariables false
set_option linter.unusedSimpArgs false
namespace Go.Vk
open Go Go.RowKit

section lists
variable {α : Type} {f : α → List Value} {sz : Nat}
theorem gd {xs : List α} {k : Nat} {d : α} (h : k < xs.length) : xs[k]? = some (xs.getD k d) := by
  rw [List.getD_eq_getElem?_getD, List.getElem?_eq_getElem h]; rfl
theorem flat_length (hf : ∀ x, (f x).length = sz) (O : List α) : (O.flatMap f).length = O.length * sz := by
  induction O with
  | nil => simp
  | cons x O ih => rw [List.flatMap_cons, List.length_append, hf, ih, List.length_cons, Nat.succ_mul]; omega
theorem flat_take (hf : ∀ x, (f x).length = sz) (O : List α) : ∀ k, (O.flatMap f).take (k * sz) = (O.take k).flatMap f := by
  induction O with
  | nil => intro k; simp
  | cons x O ih =>
    intro k
    cases k with
    | zero => simp
    | succ k => rw [List.flatMap_cons, List.take_succ_cons, List.flatMap_cons, List.take_append, List.take_of_length_le (by rw [hf, Nat.succ_mul]; omega), hf, Nat.succ_mul, Nat.add_sub_cancel, ih]
theorem flat_drop (hf : ∀ x, (f x).length = sz) (O : List α) : ∀ k, (O.flatMap f).drop (k * sz) = (O.drop k).flatMap f := by
  induction O with
  | nil => intro k; simp
  | cons x O ih =>
    intro k
    cases k with
    | zero => simp
    | succ k => rw [List.flatMap_cons, List.drop_succ_cons, List.drop_append, List.drop_of_length_le (by rw [hf, Nat.succ_mul]; omega), hf, Nat.succ_mul, Nat.add_sub_cancel, ih]; rfl
theorem flat_at (hf : ∀ x, (f x).length = sz) (O : List α) (d : α) (k : Nat) (hk : k < O.length) : ((O.flatMap f).drop (k * sz)).take sz = f (O.getD k d) := by
  rw [flat_drop hf, List.drop_eq_getElem_cons hk, List.flatMap_cons, List.take_append, List.take_of_length_le (by rw [hf]; exact Nat.le_refl _), hf, Nat.sub_self]
  simp [List.getD_eq_getElem?_getD, List.getElem?_eq_getElem hk]
theorem flat_set (hf : ∀ x, (f x).length = sz) (O : List α) (k : Nat) (hk : k < O.length) (y : α) : (O.flatMap f).take (k * sz) ++ f y ++ (O.flatMap f).drop (k * sz + sz) = (O.set k y).flatMap f := by
  rw [show k * sz + sz = (k + 1) * sz by rw [Nat.succ_mul], flat_take hf, flat_drop hf, List.set_eq_take_append_cons_drop, if_pos hk]
  simp
end lists

/-- The memory from ⟨b, off⟩ on reads as xs. -/
def RdB {α : Type} (w : World) (b off sz : Nat) (f : α → List Value) (xs : List α) : Prop := ∀ k x, xs[k]? = some x → ∀ j u, (f x)[j]? = some u → w.cell? ⟨b, off + k * sz + j, none⟩ = some u
def RdO {α : Type} (w : World) (ao : Option Addr) (sz : Nat) (f : α → List Value) (xs : List α) : Prop :=
  ∀ k x, xs[k]? = some x → ∃ b off, ao = some ⟨b, off, none⟩ ∧ ∀ j u, (f x)[j]? = some u → w.cell? ⟨b, off + k * sz + j, none⟩ = some u
section
variable {α : Type} {w : World} {v : Value} {sz : Nat} {f : α → List Value} {xs : List α}
theorem Rd.o (h : Rd w v sz f xs) : ∃ ao cap, v = .slice ao xs.length cap ∧ RdO w ao sz f xs := h
theorem RdO.rd {ao : Option Addr} (h : RdO w ao sz f xs) (cap : Nat) : Rd w (.slice ao xs.length cap) sz f xs := ⟨ao, cap, rfl, h⟩
theorem RdO.op {ao : Option Addr} (h : RdO w ao sz f xs) (hn : 0 < xs.length) : ∃ b off, ao = some ⟨b, off, none⟩ ∧ RdB w b off sz f xs := by
  obtain ⟨b, off, rfl, _⟩ := h 0 xs[0] (List.getElem?_eq_getElem hn)
  refine ⟨b, off, rfl, fun k x hk j u hu => ?_⟩
  obtain ⟨b', off', e, h2⟩ := h k x hk
  injection e with e
  injection e with e1 e2
  subst e1; subst e2
  exact h2 j u hu
theorem RdB.o {b off : Nat} (h : RdB w b off sz f xs) : RdO w (some ⟨b, off, none⟩) sz f xs := fun k x hk => ⟨b, off, rfl, h k x hk⟩
theorem Rd.nil : Rd w (.slice none 0 0) sz f ([] : List α) := ⟨none, 0, rfl, fun k x hk => by simp at hk⟩
theorem RdB.at {b off : Nat} (h : RdB w b off sz f xs) (d : α) {k : Nat} (hk : k < xs.length) : ∀ j u, (f (xs.getD k d))[j]? = some u → w.cell? ⟨b, off + k * sz + j, none⟩ = some u := h k _ (gd hk)
theorem RdB.take {b off : Nat} (h : RdB w b off sz f xs) (n : Nat) : RdB w b off sz f (xs.take n) := fun k x hk => h k x (by rw [List.getElem?_take] at hk; split at hk; exact hk; cases hk)
theorem RdO.take {ao : Option Addr} (h : RdO w ao sz f xs) (n : Nat) : RdO w ao sz f (xs.take n) := fun k x hk => h k x (by rw [List.getElem?_take] at hk; split at hk; exact hk; cases hk)
end

section
variable {P : Program} {w0 : World} {Z : List Nat} {L : List B} {a : Act} {o : Oper} {α : Type} {f : α → List Value} {sz : Nat}
/-- An own block that reads as O. -/
theorem Own.rdB {w : World} (h : Own w0 L w) (i : Nat) {b : Nat} {ty : TypeId} (hf : ∀ x, (f x).length = sz) (O : List α) {sp : List Value} (hL : L[i]? = some ⟨b, O.flatMap f ++ sp, ty⟩) : RdB w b 0 sz f O := fun k x hk j u hu => by
  rw [h.cellAt i hL]
  have hlt := (List.getElem?_eq_some_iff.1 hk).1
  have hj := (List.getElem?_eq_some_iff.1 hu).1
  have h1 := flat_at hf O x k hlt
  have hg : O.getD k x = x := by rw [List.getD_eq_getElem?_getD, hk]; rfl
  rw [hg] at h1
  rw [← h1, List.getElem?_take] at hu
  split at hu
  · rw [List.getElem?_drop] at hu
    rw [List.getElem?_append_left (by
      rw [flat_length hf]
      have : k * sz + sz ≤ O.length * sz := by rw [← Nat.succ_mul]; exact Nat.mul_le_mul_right _ hlt
      rw [hf] at hj
      omega)]
    simpa using hu
  · cases hu
theorem Own.rdB' {w : World} (h : Own w0 L w) (i : Nat) {b : Nat} {ty : TypeId} (hf : ∀ x, (f x).length = sz) (O : List α) (hL : L[i]? = some ⟨b, O.flatMap f, ty⟩) : RdB w b 0 sz f O := h.rdB i hf O (sp := []) (by simpa using hL)

/-- An element out of an own block. -/
theorem ldF {t : TypeId} {x : Operand} (hf : ∀ x, (f x).length = sz) (O : List α) (d : α) (k off : Nat) (i b : Nat) (ty : TypeId) (ho : o.op = .load t x) (hx : a.eval x = .pointer (some ⟨b, off, none⟩)) (he : off = k * sz) (hk : k < O.length)
    (ht : ∀ w, (isAgg t).run P w = .ok true w) (hs : ∀ w, (sizeOf t).run P w = .ok sz w) (hL : L[i]? = some ⟨b, O.flatMap f, ty⟩) : ∀ w, Own w0 L w → (execOp a.eval o).run P w = .ok (.value (.agg (f (O.getD k d)).toArray)) w := by
  have hfl : (f (O.getD k d)).length = sz := hf _
  subst he
  exact ldN (f (O.getD k d)) i b (k * sz) _ ty ho hx ht (by rw [hfl]; exact hs) hL (by rw [hfl]; exact flat_at hf O d k hk)
theorem ldF1 {t : TypeId} {x : Operand} {v : Value} (hf : ∀ x, (f x).length = 1) (O : List α) (d : α) (k off : Nat) (i b : Nat) (ty : TypeId) (ho : o.op = .load t x) (hx : a.eval x = .pointer (some ⟨b, off, none⟩)) (he : off = k * 1) (hk : k < O.length)
    (hv : f (O.getD k d) = [v]) (ht : ∀ w, (isAgg t).run P w = .ok false w) (hL : L[i]? = some ⟨b, O.flatMap f, ty⟩) : ∀ w, Own w0 L w → (execOp a.eval o).run P w = .ok (.value v) w := by
  subst he
  refine ld1 i b (k * 1) _ ty ho hx ht hL ?_
  have h1 := flat_at hf O d k hk
  rw [hv] at h1
  have h2 : (((O.flatMap f).drop (k * 1)).take 1)[0]? = some v := by rw [h1]; rfl
  rw [List.getElem?_take] at h2
  simpa using h2
theorem stF {t : TypeId} {x y : Operand} {L' : List B} (hf : ∀ x, (f x).length = sz) (h1 : ∀ x, ∀ v ∈ f x, v.oneCell' = true) (O : List α) (u : α) (k off : Nat) (i b : Nat) (ty : TypeId) (ho : o.op = .store t x y) (hx : a.eval x = .pointer (some ⟨b, off, none⟩)) (hy : a.eval y = .agg (f u).toArray) (he : off = k * sz) (hk : k < O.length)
    (hs : ∀ w, (sizeOf t).run P w = .ok sz w) (hL : L[i]? = some ⟨b, O.flatMap f, ty⟩) (hL' : L.set i ⟨b, (O.set k u).flatMap f, ty⟩ = L') : ∀ w, Own w0 L w → ∃ w', (execOp a.eval o).run P w = .ok .skip w' ∧ Own w0 L' w' := by
  have hfl : (f u).length = sz := hf _
  subst he
  refine stN (f u) i b (k * sz) _ ty ho hx hy (by rw [hfl]; exact hs) (h1 u) hL ?_ ?_
  · rw [hfl, flat_length hf]
    have : (k + 1) * sz ≤ O.length * sz := Nat.mul_le_mul_right _ hk
    rw [Nat.succ_mul] at this
    exact this
  · rw [← hL', hfl, flat_set hf O k hk]
theorem stF1 {t : TypeId} {x y : Operand} {v : Value} {L' : List B} (hf : ∀ x, (f x).length = 1) (h1 : v.oneCell' = true) (O : List α) (u : α) (k off : Nat) (i b : Nat) (ty : TypeId) (ho : o.op = .store t x y) (hx : a.eval x = .pointer (some ⟨b, off, none⟩)) (hy : a.eval y = v) (hv : f u = [v]) (he : off = k * 1) (hk : k < O.length)
    (hs : ∀ w, (sizeOf t).run P w = .ok 1 w) (hL : L[i]? = some ⟨b, O.flatMap f, ty⟩) (hL' : L.set i ⟨b, (O.set k u).flatMap f, ty⟩ = L') : ∀ w, Own w0 L w → ∃ w', (execOp a.eval o).run P w = .ok .skip w' ∧ Own w0 L' w' := by
  subst he
  have hlen : k * 1 < (O.flatMap f).length := by rw [flat_length hf]; omega
  refine st1 i b (k * 1) _ ty ho hx hy hs h1 hL hlen ?_
  have e : (O.flatMap f).set (k * 1) v = (O.set k u).flatMap f := by
    rw [← flat_set hf O k hk u, hv, List.set_eq_take_append_cons_drop, if_pos hlen]
    simp
  rw [e]; exact hL'
/-- An element out of memory that was there. -/
theorem ldR {t : TypeId} {x : Operand} (hf : ∀ x, (f x).length = sz) {xs : List α} (d : α) (k b off o2 : Nat) (h : RdB w0 b off sz f xs) (ho : o.op = .load t x) (hx : a.eval x = .pointer (some ⟨b, o2, none⟩)) (he : o2 = off + k * sz) (hk : k < xs.length)
    (ht : ∀ w, (isAgg t).run P w = .ok true w) (hs : ∀ w, (sizeOf t).run P w = .ok sz w) : ∀ w, Own w0 L w → (execOp a.eval o).run P w = .ok (.value (.agg (f (xs.getD k d)).toArray)) w := by
  have hfl : (f (xs.getD k d)).length = sz := hf _
  subst he
  exact ldNo (f (xs.getD k d)) b (off + k * sz) ho hx ht (by rw [hfl]; exact hs) (h.at d hk)
theorem ldR1 {t : TypeId} {x : Operand} {v : Value} {xs : List α} (d : α) (k j b off o2 : Nat) (h : RdB w0 b off sz f xs) (ho : o.op = .load t x) (hx : a.eval x = .pointer (some ⟨b, o2, none⟩)) (he : o2 = off + k * sz + j) (hk : k < xs.length)
    (hv : (f (xs.getD k d))[j]? = some v) (ht : ∀ w, (isAgg t).run P w = .ok false w) : ∀ w, Own w0 L w → (execOp a.eval o).run P w = .ok (.value v) w := by
  subst he
  exact ld1o b _ ho hx ht (h.at d hk j v hv)
end
end Go.Vk
namespace Go.Vk
open Go Go.RowKit
theorem madeF {α : Type} {f : α → List Value} {d : α} (n : Nat) {zs : List Value} (h : f d = zs) : madeCells zs.toArray (n * zs.length) = ((List.replicate n d).flatMap f).toArray := by
  rw [madeCellsN, List.flatMap_def, List.map_replicate, h]
end Go.Vk
namespace Go.Vk
open Go Go.RowKit
section
variable {P : Program} {w0 : World} {Z : List Nat} {L : List B} {Q : Exit → Act → World → Prop} {a : Act} {ops : Array Oper} {o : Oper} {rest : List Oper} {ks : List Kd}
theorem Own.join {ob : List B} {w w' : World} (h : Own w0 L w) (h2 : Own w ob w') : Own w0 (L ++ ob) w' := by
  have h1 := h.call h2.below
  refine ⟨h1.below, ?_, ?_, ?_⟩
  · intro x hx
    rcases List.mem_append.1 hx with hx | hx
    · exact h1.blk x hx
    · exact h2.blk x hx
  · intro x hx
    rcases List.mem_append.1 hx with hx | hx
    · exact h1.fresh x hx
    · have := h2.fresh x hx; have := h.below.size; omega
  · rw [List.map_append, List.nodup_append]
    refine ⟨h1.nodup, h2.nodup, ?_⟩
    intro p hp q hq e
    obtain ⟨x, hx, rfl⟩ := List.mem_map.1 hp
    obtain ⟨y, hy, rfl⟩ := List.mem_map.1 hq
    have := h.lt hx
    have := h2.fresh y hy
    omega
/-- A call that hands back new memory. -/
theorem S_callN {f : FuncId} {args : Array Value} {ι : Type} (v : ι → Value) (M : ι → List B) (hw : Region.wanted o (yielded ops a.tmps) = true) (h : ∀ w, Own w0 L w → (execOp a.eval o).run P w = .ok (.enter f args) w)
    (hc : ∀ w, Own w0 L w → Calls P f args w fun e w' => ∃ x, e = .returned (v x) ∧ Own w (M x) w') (k : ∀ x, S P w0 (L ++ M x) ops Q rest (a.put o.dst (v x))) : S P w0 L ops Q (o :: rest) a :=
  S_call hw h fun w hO => (hc w hO).mono fun _ _ ⟨x, he, hb⟩ => ⟨v x, L ++ M x, he, hO.join hb, k x⟩
theorem D_callN {f : FuncId} {args : Array Value} {ι : Type} (ne : Nonempty ι) (v : ι → Value) (M : ι → List B) (hw : Region.wanted o (yielded ops a.tmps) = true) (h : ∀ w, Own w0 L w → (execOp a.eval o).run P w = .ok (.enter f args) w)
    (hc : ∀ w, Own w0 L w → Calls P f args w fun e w' => ∃ x, e = .returned (v x) ∧ Own w (M x) w') (k : ∀ x, DS P w0 Z ops Q ks rest (a.put o.dst (v x)) (L ++ M x)) : DS P w0 Z ops Q (.giv :: ks) (o :: rest) a L :=
  D_giv ne v (fun x => L ++ M x) (fun x => ⟨M x, List.perm_append_comm⟩) hw (fun w hO => by rw [h w hO]; exact (hc w hO).mono fun _ _ ⟨x, he, hb⟩ => ⟨x, he, hO.join hb⟩) k
/-- A slice that is handed back, in new memory. -/
def RowOf (e : TypeId) (sz n : Nat) (xs : List Value) : Type := { p : Value × List B // Rw e sz p.1 n xs p.2 }
def Gives (P : Program) (f : FuncId) (args : Array Value) (w : World) (e : TypeId) (sz n : Nat) (xs : List Value) (mk : Value → Value) : Prop :=
  Calls P f args w fun en w' => ∃ x : RowOf e sz n xs, en = .returned (mk x.1.1) ∧ Own w x.1.2 w'
theorem S_gives {f : FuncId} {args : Array Value} {e : TypeId} {sz n : Nat} {xs : List Value} {mk : Value → Value} (hw : Region.wanted o (yielded ops a.tmps) = true) (h : ∀ w, Own w0 L w → (execOp a.eval o).run P w = .ok (.enter f args) w)
    (hc : ∀ w, Own w0 L w → Gives P f args w e sz n xs mk) (k : ∀ v ob, Rw e sz v n xs ob → S P w0 (L ++ ob) ops Q rest (a.put o.dst (mk v))) : S P w0 L ops Q (o :: rest) a :=
  S_callN (fun x : RowOf e sz n xs => mk x.1.1) (fun x => x.1.2) hw h hc fun x => k _ _ x.2
theorem D_gives {f : FuncId} {args : Array Value} {e : TypeId} {sz n : Nat} {xs : List Value} {mk : Value → Value} (ne : Nonempty (RowOf e sz n xs)) (hw : Region.wanted o (yielded ops a.tmps) = true) (h : ∀ w, Own w0 L w → (execOp a.eval o).run P w = .ok (.enter f args) w)
    (hc : ∀ w, Own w0 L w → Gives P f args w e sz n xs mk) (k : ∀ v ob, Rw e sz v n xs ob → DS P w0 Z ops Q ks rest (a.put o.dst (mk v)) (L ++ ob)) : DS P w0 Z ops Q (.giv :: ks) (o :: rest) a L :=
  D_callN ne (fun x : RowOf e sz n xs => mk x.1.1) (fun x => x.1.2) hw h hc fun x => k _ _ x.2
theorem RowOf.inh {α : Type} {e : TypeId} {sz : Nat} {f : α → List Value} (hf : ∀ x, (f x).length = sz) (xs : List α) (n : Nat) (hn : xs.length = n) (hm : n ≤ maxLen) : Nonempty (RowOf e sz n (xs.flatMap f)) := by
  subst hn
  exact ⟨⟨(.slice (some ⟨0, 0, none⟩) xs.length xs.length, [⟨0, xs.flatMap f, e⟩]), flat_length hf xs, .inr ⟨0, xs.length, [], rfl, by rw [List.append_nil], Nat.le_refl _, hm, by rw [List.append_nil]; exact flat_length hf xs⟩⟩⟩
/-- The end of a body that hands back a slice of its own, made whole. -/
theorem gives_row {fn : Func} {e : TypeId} {sz n : Nat} {xs : List Value} {mk : Value → Value} {v : Value} {ob : List B} (hr : Rw e sz v n xs ob) (hs : ob.Sublist L) (hd : a.defers = []) (hres : ∀ w, Own w0 L w → (results fn a.tmps).run P w = .ok (mk v) w) :
    E w0 L (bodyPost P fn (fun en w' => ∃ x : RowOf e sz n xs, en = .returned (mk x.1.1) ∧ Own w0 x.1.2 w')) .ret a :=
  E_ret (mk v) hd hres fun _ h => ⟨⟨(v, ob), hr⟩, rfl, h.sub hs⟩
theorem Rw.whole {α : Type} {e : TypeId} {sz : Nat} {f : α → List Value} (hf : ∀ x, (f x).length = sz) (b : Nat) (xs : List α) (hm : xs.length ≤ maxLen) : Rw e sz (.slice (some ⟨b, 0, none⟩) xs.length xs.length) xs.length (xs.flatMap f) [⟨b, xs.flatMap f, e⟩] :=
  ⟨flat_length hf xs, .inr ⟨b, xs.length, [], rfl, by rw [List.append_nil], Nat.le_refl _, hm, by rw [List.append_nil]; exact flat_length hf xs⟩⟩
/-- An own row, opened: it has a block, unless it is empty. -/
theorem Rw.op {α : Type} {e : TypeId} {sz : Nat} {f : α → List Value} {v : Value} {xs : List α} {ob : List B} (hr : Rw e sz v xs.length (xs.flatMap f) ob) (hn : 0 < xs.length) :
    ∃ g cap sp, v = .slice (some ⟨g, 0, none⟩) xs.length cap ∧ ob = [⟨g, xs.flatMap f ++ sp, e⟩] ∧ xs.length ≤ cap ∧ cap ≤ maxLen ∧ (xs.flatMap f ++ sp).length = cap * sz := by
  rcases hr.2 with ⟨_, h, _⟩ | h
  · omega
  · exact h
end
end Go.Vk
namespace Go.Vk
open Go Go.RowKit
theorem Rw.whole' {α : Type} {e : TypeId} {sz : Nat} {f : α → List Value} (hf : ∀ x, (f x).length = sz) (b : Nat) (xs : List α) (n : Nat) (hn : xs.length = n) (hm : n ≤ maxLen) : Rw e sz (.slice (some ⟨b, 0, none⟩) n n) n (xs.flatMap f) [⟨b, xs.flatMap f, e⟩] := by
  subst hn; exact Rw.whole hf b xs hm
theorem sub1 {L : List B} (i : Nat) {x : B} (h : L[i]? = some x) : [x].Sublist L := List.singleton_sublist.2 (List.mem_of_getElem? h)
theorem le_maxLen {n : Nat} (h : n ≤ 9223372036854775807) : n ≤ maxLen := by simp only [maxLen]; omega
end Go.Vk
namespace Go.Vk
open Go Go.RowKit
theorem Rw.rd' {α : Type} {w0 w : World} {L ob : List B} {e : TypeId} {sz : Nat} {v : Value} {xs : List α} {n : Nat} {f : α → List Value} (hf : ∀ x, (f x).length = sz) (hn : xs.length = n) (hr : Rw e sz v n (xs.flatMap f) ob) (h : Own w0 L w) (hs : ob.Sublist L) : Rd w v sz f xs := by
  subst hn; exact hr.rd hf h hs
end Go.Vk
namespace Go.Vk
open Go Go.RowKit
theorem Rw.op' {α : Type} {e : TypeId} {sz n : Nat} {f : α → List Value} {v : Value} {xs : List α} {ob : List B} (hl : xs.length = n) (hr : Rw e sz v n (xs.flatMap f) ob) (hn : 0 < n) :
    ∃ g cap sp, v = .slice (some ⟨g, 0, none⟩) n cap ∧ ob = [⟨g, xs.flatMap f ++ sp, e⟩] ∧ n ≤ cap ∧ cap ≤ maxLen ∧ (xs.flatMap f ++ sp).length = cap * sz := by
  subst hl; exact hr.op hn
theorem Rw.lecap {e : TypeId} {sz n n' cap : Nat} {ao : Option Addr} {xs : List Value} {ob : List B} (hr : Rw e sz (.slice ao n' cap) n xs ob) : n' ≤ cap := by
  rcases hr.2 with ⟨h, _, _⟩ | ⟨g, cap', sp, h, _, h1, _⟩
  · injection h with h1 h2 h3; omega
  · injection h with h1 h2 h3; omega
end Go.Vk
