/- The stretches of a batch proof rise and, with its own, are all leaves. No program in sight. -/
import Derived.Test.YtnddjadjmgfgnaaDoorBatchPlain
import Derived.Test.YtnddjadjmgfgnaaDoorTiles
namespace Go.Proofs.YtnddjadjmgfgnaaDoor
open Go.ChangeShapes Go.WideShapes Go.ChangeAt Go.RowKit
set_option linter.unusedVariables false
theorem Chain.self {l : List (Int × Int)} {a : Int} (h : Chain a l a) : l = [] := by
  cases l with
  | nil => rfl
  | cons x r => exfalso; have := Chain.mem h x (by simp); omega
theorem Chain.one {a b : Int} (h : a < b) : Chain a [(a, b)] b := ⟨rfl, h, rfl⟩
theorem batchL_chain : ∀ (f : Nat) (x y b e : Int), x < y → b < e → e - b ≤ pow2 f → x < e → b < y →
    ∃ l1 l2, batchL f x y b e = l1 ++ l2 ∧ Chain b l1 (max b x) ∧ Chain (min e y) l2 e
  | 0, x, y, b, e, hxy, hbe, hp, h1, h2 => by
      rw [pow2_zero] at hp
      rw [batchL_in (by omega) (by omega)]
      exact ⟨[], [], rfl, by show b = max b x; omega, by show min e y = e; omega⟩
  | f + 1, x, y, b, e, hxy, hbe, hp, h1, h2 => by
      by_cases hi : x ≤ b ∧ e ≤ y
      · rw [batchL_in (by omega) hi]
        exact ⟨[], [], rfl, by show b = max b x; omega, by show min e y = e; omega⟩
      · have hk := blwI_bd (n := e - b) (by omega)
        have hkf := blwI_le_pow (n := e - b) (f := f) (by omega) hp
        rw [batchL_half (by omega) hi]
        obtain ⟨m, hm⟩ : ∃ m, b + blwI (e - b) = m := ⟨_, rfl⟩
        rw [hm]
        by_cases hy : y ≤ m
        · obtain ⟨l1, l2, e1, c1, c2⟩ := batchL_chain f x y b m hxy (by omega) (by omega) (by omega) h2
          refine ⟨l1, l2 ++ [(m, e)], by rw [e1, batchL_out (b := m) (.inr hy)]; simp, c1, ?_⟩
          rw [show min e y = min m y by omega]
          exact c2.append (Chain.one (by omega))
        · by_cases hx : m ≤ x
          · obtain ⟨l1, l2, e1, c1, c2⟩ := batchL_chain f x y m e hxy (by omega) (by omega) h1 (by omega)
            refine ⟨(b, m) :: l1, l2, by rw [e1, batchL_out (b := b) (e := m) (.inl hx)]; simp, ?_, c2⟩
            rw [show max b x = max m x by omega]
            exact (Chain.one (show b < m by omega)).append c1
          · obtain ⟨l1, l2, e1, c1, c2⟩ := batchL_chain f x y b m hxy (by omega) (by omega) (by omega) h2
            obtain ⟨l3, l4, e2, c3, c4⟩ := batchL_chain f x y m e hxy (by omega) (by omega) h1 (by omega)
            rw [show min m y = m by omega] at c2
            rw [show max m x = m by omega] at c3
            obtain rfl := c2.self
            obtain rfl := c3.self
            exact ⟨l1, l4, by rw [e1, e2]; simp, c1, c4⟩
theorem batchL_tiles {x y sz : Int} (h0 : 0 ≤ x) (h1 : x < y) (h2 : y ≤ sz) (h3 : sz ≤ 9223372036854775808) :
    (∃ C, Chain 0 C sz ∧ C.Perm ((x, y) :: batchL 64 x y 0 sz)) ∧ (batchL 64 x y 0 sz).Pairwise (fun a b => a.2 ≤ b.1) := by
  obtain ⟨l1, l2, e, c1, c2⟩ := batchL_chain 64 x y 0 sz h1 (by omega) (by rw [pow2_64]; omega) (by omega) (by omega)
  rw [show max 0 x = x by omega] at c1
  rw [show min sz y = y by omega] at c2
  rw [e]
  refine ⟨⟨l1 ++ (x, y) :: l2, c1.append (Chain.append (Chain.one h1) c2), List.perm_middle⟩, ?_⟩
  have pw : ∀ {l : List (Int × Int)} {a b : Int}, Chain a l b → l.Pairwise (fun a b => a.2 ≤ b.1) := by
    intro l
    induction l with
    | nil => intro _ _ _; exact List.Pairwise.nil
    | cons z r ih =>
      intro a b h
      exact List.Pairwise.cons (fun w hw => (Chain.mem h.2.2 w hw).1) (ih h.2.2)
  rw [List.pairwise_append]
  refine ⟨pw c1, pw c2, fun a ha b hb => ?_⟩
  have := Chain.mem c1 a ha
  have := Chain.mem c2 b hb
  omega
end Go.Proofs.YtnddjadjmgfgnaaDoor
