/- append of a list of hashes to one without room; a list with one hash taken out. No program's function in sight. -/
import Derived.Test.YtjhlgkjgodjmhaaDoorAppStep
import Derived.Test.YtjhlgkjgodjmhaaDoorSameHashes
import Derived.Deep.Upon
namespace Go.Proofs.YtjhlgkjgodjmhaaDoor
open Go.ChangeShapes Go.WideShapes Go.ChangeAt Go.RowKit
set_option linter.unusedVariables false
theorem HIn.cells {w : World} {b : Addr} {n c : Nat} {l : List (List UInt8)} (h : HIn w (some b) n c l) : ∀ j u, (hashCells l)[j]? = some u → w.cell? (b.add j) = some u := by
  rcases h.2.2.2.2 with rfl | ⟨g, o, h6, h7⟩
  · intro j u hj; simp [hashCells_nil] at hj
  · cases h6; exact range_add h7
theorem run_app_hin (ty : TypeId) (A1 A2 : Option Addr) (k m c2 : Nat) (l1 l2 : List (List UInt8)) (w : World) (h1 : HIn w A1 k k l1) (h2 : HIn w A2 m c2 l2) (hk : k ≤ 1048576) (hm : m ≤ 1048576) :
    ∃ A c' w', (Builtin.append_ #[30, 30] ty #[.slice A1 k k, .slice A2 m c2]).run Tryd.prog w = .ok (.slice A (k + m) c') w' ∧ HIn w' A (k + m) c' (l1 ++ l2) ∧ Below w.heap.size w w' := by
  obtain ⟨i0, hi, hz0, hz1, hz2⟩ := info_parts info_hash
  have n1 := hashCells_length h1.1
  have n2 := hashCells_length h2.1
  rw [h1.2.1] at n1
  rw [h2.2.1] at n2
  have h32 : H32 (l1 ++ l2) := fun x hx => (List.mem_append.1 hx).elim (h1.1 x) (h2.1 x)
  have hlen : (l1 ++ l2).length = k + m := by rw [List.length_append, h1.2.1, h2.2.1]
  have hB := Below.refl w.heap.size w
  by_cases hm0 : m = 0
  · subst hm0
    obtain rfl : l2 = [] := List.length_eq_zero_iff.1 h2.2.1
    have hs : Src Tryd.prog i0.size 30 (.slice A2 0 c2) 0 [] w := by
      cases A2 with
      | none => exact Src.ofNil w Tryd.underlying30 c2
      | some b => exact Src.ofSlice w Tryd.underlying30 b 0 c2 [] (by simp) (fun j u hj => by simp at hj) (fun u hu => by cases hu)
    exact ⟨A1, k, w, run_append_nothing w 30 30 ty 33 i0 Tryd.underlying30 hi A1 k k (Nat.le_refl _) _ hs, by simpa using h1, hB⟩
  · obtain ⟨a2, rfl⟩ : ∃ b, A2 = some b := by
      rcases h2.2.2.2.2 with rfl | ⟨g, o, rfl, _⟩
      · have := h2.2.1; simp at this; omega
      · exact ⟨_, rfl⟩
    cases A1 with
    | none =>
      obtain rfl : l1 = [] := by
        rcases h1.2.2.2.2 with rfl | ⟨g, o, q, _⟩
        · rfl
        · cases q
      obtain rfl : k = 0 := h1.2.1.symm
      obtain ⟨A, c', w', hr, ho, hg, _⟩ := run_append_shape (P := Tryd.prog) w.heap.size 30 ty 33 i0 _ 32 32 Tryd.underlying30 hi hz0 hz1 hz2 rfl (by omega) (.slice none 0 0) 0 [] (World.ownsRow_nil _ _ _ _) a2 m c2 (hashCells l2) n2 h2.cells (hashCells_cell _) (by unfold maxLen; omega) (by omega) (Nat.le_refl _)
      exact ⟨A, c', w', hr, own_hin ho h32 hlen, hB.grown hg (Nat.le_refl _) (fun q hq => by cases hq)⟩
    | some a1 =>
      obtain ⟨v', w', hr, ho, hg⟩ := run_append_arg_grows (P := Tryd.prog) w 30 ty 33 i0 _ 32 32 Tryd.underlying30 hi hz0 hz1 hz2 rfl (by omega) a1 k k (hashCells l1) n1 h1.cells a2 m c2 (hashCells l2) n2 h2.cells (by omega) (by unfold maxLen; omega) (by omega)
      obtain ⟨A, c', rfl, _⟩ := own_shape ho
      exact ⟨A, c', w', hr, own_hin (by rw [hashCells_append]; exact ho) h32 hlen, hB.grown hg (Nat.le_refl _) (fun q hq => by cases hq)⟩
theorem step_app_hin {ops : Array Oper} {o : Oper} {a : Act} {w : World} {K : Act → World → Prop} {Q : Exit → Act → World → Prop} {E : Prop}
    (hg : o.guard = none) (s x : Operand) (ho : o.op = Op.call { callee := Callee.builtin Builtin.append, args := #[s, x], argTypes := #[30, 30] })
    (A1 A2 : Option Addr) (k m c2 : Nat) (l1 l2 : List (List UInt8)) (hs : a.eval s = .slice A1 k k) (hx : a.eval x = .slice A2 m c2) (h1 : HIn w A1 k k l1) (h2 : HIn w A2 m c2 l2) (hk : k ≤ 1048576) (hm : m ≤ 1048576)
    (hK : ∀ A c' w', HIn w' A (k + m) c' (l1 ++ l2) → Below w.heap.size w w' → K (a.put o.dst (.slice A (k + m) c')) w') :
    if Region.wanted o (yielded ops a.tmps) = true then Oper.wp Tryd.prog o a w K Q else E := by
  have hw : Region.wanted o (yielded ops a.tmps) = true := by simp [Region.wanted, hg]
  rw [if_pos hw]
  obtain ⟨A, cap, w', hr, h3, h4⟩ := run_app_hin o.type A1 A2 k m c2 l1 l2 w h1 h2 hk hm
  unfold Oper.wp execOp
  simp only [ho, resolve, invoke, builtin, Sem.run_bind, Sem.run_pure, Result.andThen_ok, List.map_toArray, List.map_cons, List.map_nil, hs, hx, hr]
  exact hK A cap w' h3 h4
theorem wpList_app_hin {ops : Array Oper} {rest : List Oper} {o : Oper} {a : Act} {w : World} {Q : Exit → Act → World → Prop}
    (hg : o.guard = none) (s x : Operand) (ho : o.op = Op.call { callee := Callee.builtin Builtin.append, args := #[s, x], argTypes := #[30, 30] })
    (A1 A2 : Option Addr) (k m c2 : Nat) (l1 l2 : List (List UInt8)) (hs : a.eval s = .slice A1 k k) (hx : a.eval x = .slice A2 m c2) (h1 : HIn w A1 k k l1) (h2 : HIn w A2 m c2 l2) (hk : k ≤ 1048576) (hm : m ≤ 1048576)
    (h : ∀ A c' w', HIn w' A (k + m) c' (l1 ++ l2) → Below w.heap.size w w' → wpList Tryd.prog ops Q rest (a.put o.dst (.slice A (k + m) c')) w') : wpList Tryd.prog ops Q (o :: rest) a w := by
  refine wpList_plain hg fun K hK => ?_
  have := step_app_hin (w := w) (ops := ops) (o := o) (a := a) (K := K) (Q := Q) (E := False) hg s x ho A1 A2 k m c2 l1 l2 hs hx h1 h2 hk hm (fun A cap w' h2 h3 => hK _ _ (h A cap w' h2 h3))
  rwa [if_pos (by simp [Region.wanted, hg])] at this
/-- the list without its k-th hash, as the two slices of it say it -/
theorem HIn.head {w : World} {A : Option Addr} {n c : Nat} {l : List (List UInt8)} (h : HIn w A n c l) {k : Nat} (hk : k ≤ n) : HIn w A k k (l.take k) := by
  obtain ⟨h1, h2, h3, h4, h5⟩ := h
  refine ⟨fun x hx => h1 x (List.mem_of_mem_take hx), by rw [List.length_take]; omega, Nat.le_refl _, by omega, ?_⟩
  rcases h5 with rfl | ⟨g, o, h6, h7⟩
  · left; simp
  · refine .inr ⟨g, o, h6, fun j v hj => h7 j v ?_⟩
    rw [← List.take_append_drop k l, hashCells_append, List.getElem?_append_left (List.getElem?_eq_some_iff.1 hj).1]; exact hj
theorem HIn.rest {w : World} {g o : Nat} {A2 : Option Addr} {n c c2 m : Nat} {l : List (List UInt8)} (h : HIn w (some ⟨g, o, none⟩) n c l) {k : Nat} (hk : k ≤ n) (hm : m = n - k) (hc : m ≤ c2) (hc9 : c2 ≤ 9223372036854775807) (ha : 0 < m → A2 = some ⟨g, o + k * 32, none⟩) : HIn w A2 m c2 (l.drop k) := by
  obtain ⟨h1, h2, h3, h4, h5⟩ := h
  refine ⟨fun x hx => h1 x (List.mem_of_mem_drop hx), by rw [List.length_drop, h2, hm], hc, hc9, ?_⟩
  by_cases hm0 : m = 0
  · left; apply List.length_eq_zero_iff.1; rw [List.length_drop]; omega
  · rcases h5 with rfl | ⟨g', o', h6, h7⟩
    · left; simp
    · cases h6
      refine .inr ⟨g, _, ha (by omega), fun j v hj => ?_⟩
      have := hashCells_drop h1 k
      rw [this, List.getElem?_drop] at hj
      rw [Nat.add_assoc]; exact h7 _ v hj
end Go.Proofs.YtjhlgkjgodjmhaaDoor
