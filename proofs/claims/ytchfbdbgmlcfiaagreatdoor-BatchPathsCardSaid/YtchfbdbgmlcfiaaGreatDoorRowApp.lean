/- append of one cell onto a row that may bear a mark behind its end (what a conversion laid). No program in sight. -/
import Derived.Test.YtchfbdbgmlcfiaaGreatDoorAppStep
import Derived.ArgAppend
import Derived.Lib.EndianMore
namespace Go.Proofs.YtchfbdbgmlcfiaaGreatDoor
open Go.ChangeShapes Go.WideShapes Go.ChangeAt Go.RowKit
set_option linter.unusedVariables false
/-- a row of one-cell elements in a block at or behind base: the cells xs, and spare cells that may be written -/
def LRow (w : World) (base : Nat) (A : Option Addr) (n cap : Nat) (xs : List Value) : Prop :=
  xs.length = n ∧ n ≤ cap ∧ cap ≤ maxLen ∧ ∃ g, A = some ⟨g, 0, none⟩ ∧ base ≤ g ∧ g < w.heap.size ∧ w.rangeAt g 0 xs ∧
    ∀ j, n ≤ j → j < cap → (w.cell? ⟨g, j, none⟩).isSome = true ∧ w.frozen? ⟨g, j, none⟩ = false
theorem LRow.below {w w' : World} {base n cap B : Nat} {A : Option Addr} {xs : List Value} (h : LRow w base A n cap xs) (hb : Below B w w') (hB : w.heap.size ≤ B) : LRow w' base A n cap xs := by
  obtain ⟨h1, h2, h3, g, h4, h5, h6, h7, h8⟩ := h
  have e := hb.block g (by omega)
  exact ⟨h1, h2, h3, g, h4, h5, Nat.lt_of_lt_of_le h6 hb.size, fun j v hj => cell_block e (h7 j v hj), fun j a b => ⟨by rw [World.cell?_of_block (a := ⟨g, j, none⟩) e]; exact (h8 j a b).1, (World.frozen?_of_block (a := ⟨g, j, none⟩) e).trans (h8 j a b).2⟩⟩
theorem LRow.alloc {w : World} {base n cap : Nat} {A : Option Addr} {xs : List Value} (h : LRow w base A n cap xs) (o : Obj) : LRow (w.alloc o) base A n cap xs := h.below ((Below.refl _ _).alloc (Nat.le_refl _) o) (Nat.le_refl _)
theorem LRow.congr {w : World} {base n m cap : Nat} {A : Option Addr} {xs ys : List Value} (h : LRow w base A n cap xs) (e : n = m) (f : xs = ys) : LRow w base A m cap ys := e ▸ f ▸ h
theorem own_lrow {w : World} {base : Nat} {e : TypeId} {A : Option Addr} {n cap : Nat} {xs : List Value} (h : w.ownsRow base e 1 (.slice A n cap) n xs) (h0 : 0 < n) : LRow w base A n cap xs := by
  rcases h with ⟨hl, ⟨q, h1⟩ | ⟨g, c, cur, h1, h2, h3, h4, h5, h6, h7⟩⟩
  · omega
  · cases h1
    rw [Nat.mul_one] at hl h6 h7
    refine ⟨hl, h4, h5, g, rfl, h2, (Array.getElem?_eq_some_iff.1 h3).1, fun j v hj => ?_, fun j a b => ⟨?_, frozen_of_row w g j _ e h3⟩⟩
    · rw [Nat.zero_add, cell_of_row w g j _ e (0, 0) h3]
      rw [← h7] at hj
      have hjn : j < n := by have := (List.getElem?_eq_some_iff.1 hj).1; rw [List.length_take] at this; omega
      rw [List.getElem?_take_of_lt hjn] at hj
      simpa using hj
    · rw [cell_of_row w g j _ e (0, 0) h3, Array.getElem?_eq_getElem (by omega)]; rfl
theorem wpList_append_lrow {P : Program} {w : World} {ops : Array Oper} {rest : List Oper} {o : Oper} {a : Act} {Q : Exit → Act → World → Prop} (hg : o.guard = none) (s x : Operand) (t : TypeId)
    (ho : o.op = Op.call { callee := Callee.builtin Builtin.append, args := #[s, x], argTypes := #[t, t] })
    (base : Nat) (e : TypeId) (i : TypeInfo) (z : Value) (bytes : Nat) (ht : P.underlying t = some (.slice e)) (hi : P.info? e = some i) (hz : i.zero = some z)
    (hsize : i.size = 1) (hby : i.bytes = bytes) (hzs : z.cells.size = 1)
    (A : Option Addr) (n cap : Nat) (xs : List Value) (hs : a.eval s = .slice A n cap) (hr : LRow w base A n cap xs)
    (b o2 c : Nat) (u : Value) (hx : a.eval x = .slice (some ⟨b, o2, none⟩) 1 c) (hu : w.cell? ⟨b, o2, none⟩ = some u) (h1 : u.oneCell' = true)
    (h63 : n + 1 ≤ maxLen) (hbytes : (n + 1) * bytes ≤ 140737488355328) (hbase : base ≤ w.heap.size)
    (h : ∀ A cap w', LRow w' base A (n + 1) cap (xs ++ [u]) → Below base w w' → wpList P ops Q rest (a.put o.dst (.slice A (n + 1) cap)) w') : wpList P ops Q (o :: rest) a w := by
  obtain ⟨hl, hc, hm, g, rfl, hg1, hg2, hg3, hg4⟩ := hr
  have hnews : ∀ j v, [u][j]? = some v → w.cell? ((⟨b, o2, none⟩ : Addr).add j) = some v := by
    intro j v hj
    match j, hj with
    | 0, hj => rw [Addr.add_mid]; simp at hj; subst hj; simpa using hu
  refine wpList_append_arg w hg s x t ho e i z 1 bytes ht hi hz hsize hby hzs (by decide) g 0 n cap xs hs (by omega) (fun j v hj => hg3 j v hj) ⟨b, o2, none⟩ 1 c [u] hx rfl hnews (by simpa using h1) ?_ h63 hbytes ?_ ?_
  · intro hle j hj
    obtain rfl : j = 0 := by simpa using hj
    rw [show 0 + n * 1 + 0 = n by omega]
    exact hg4 n (Nat.le_refl _) (by omega)
  · intro hle
    rw [show 0 + n * 1 = n by omega]
    refine h _ _ _ ⟨by simp [hl], hle, hm, g, rfl, hg1, ?_, ?_, ?_⟩ ?_
    · show g < (w.setCell ⟨g, n, none⟩ u).heap.size
      simpa using hg2
    · show (w.setCell ⟨g, n, none⟩ u).rangeAt g 0 (xs ++ [u])
      intro j v hj
      rw [Nat.zero_add]
      by_cases hjn : j < xs.length
      · rw [List.getElem?_append_left hjn] at hj
        rw [World.cell?_setCell_other w ⟨g, n, none⟩ ⟨g, j, none⟩ u (by intro q; injection q; omega)]
        have := hg3 j v hj
        rwa [Nat.zero_add] at this
      · rw [List.getElem?_append_right (by omega)] at hj
        obtain rfl : j = n := by have := (List.getElem?_eq_some_iff.1 hj).1; simp at this; omega
        simp [hl] at hj
        subst hj
        have hs1 := (hg4 j (Nat.le_refl _) (by omega)).1
        have := World.cell?_setCells_in g [u] j w (fun k hk => by (obtain rfl : k = 0 := by simp at hk; exact hk); rw [Nat.add_zero]; exact hs1) 0 (by simp)
        simpa [World.setCells] using this
    · intro j a2 b2
      have h4 := hg4 j (by omega) b2
      show ((w.setCell ⟨g, n, none⟩ u).cell? ⟨g, j, none⟩).isSome = true ∧ (w.setCell ⟨g, n, none⟩ u).frozen? ⟨g, j, none⟩ = false
      rw [World.cell?_setCell_other w ⟨g, n, none⟩ ⟨g, j, none⟩ u (by intro q; injection q; omega), World.frozen?_setCell]
      exact h4
    · exact Lib.below_setCells_w hg1 _ _ _
  · intro hgt v' w' hown hgrow
    obtain ⟨A', c', rfl, hc'⟩ := own_shape hown
    have hb : Below base w w' := ⟨hgrow.os, hgrow.tape, hgrow.output, hgrow.size, fun k hk => hgrow.block k (by omega) (by simp)⟩
    have h2 := own_lrow hown (by omega)
    obtain ⟨q1, q2, q3, g', q4, q5, q6⟩ := h2
    exact h _ _ _ ⟨q1, q2, q3, g', q4, by omega, q6⟩ hb
end Go.Proofs.YtchfbdbgmlcfiaaGreatDoor
