/- cartularylaw01.SameSpans, SameCoords: lists that read as one answer true. -/
import Derived.Test.YtdodfeoaioolnaaDoorMem
import Derived.Test.YtdodfeoaioolnaaDoorCoverPlain
import Derived.Test.YtdodfeoaioolnaaDoorRows
import Derived.BigQuiet
import Derived.Deep.QuietTactic
namespace Go.Proofs.YtdodfeoaioolnaaDoor
open Go.ChangeShapes Go.WideShapes Go.ChangeAt Go.RowKit
set_option linter.unusedVariables false
theorem coordCells_at : ∀ (l : List (Nat × Nat)) (i : Nat) (p : Nat × Nat), l[i]? = some p → (coordCells l)[i * 2]? = some (.int .u8 (p.1 : Int)) ∧ (coordCells l)[i * 2 + 1]? = some (.int .u64 (p.2 : Int))
  | [], i, p, h => by simp at h
  | x :: r, 0, p, h => by simp at h; subst h; exact ⟨rfl, rfl⟩
  | x :: r, i + 1, p, h => by
      have := coordCells_at r i p (by simpa using h)
      have e : coordCells (x :: r) = .int .u8 (x.1 : Int) :: .int .u64 (x.2 : Int) :: coordCells r := rfl
      rw [e, Nat.add_mul]; simpa using this

theorem same_coords (l : List (Nat × Nat)) (v1 v2 : Value) (w : World) (hl : l.length ≤ 1000000) (h1 : Rd w v1 2 l.length (coordCells l)) (h2 : Rd w v2 2 l.length (coordCells l)) :
    Calls Tryd.prog 48 #[v1, v2] w fun e w' => e = .returned (.bool true) ∧ Below w.heap.size w w' := by
  obtain ⟨_, A1, c1, rfl, h1⟩ := h1
  obtain ⟨_, A2, c2, rfl, h2⟩ := h2
  obtain ⟨n, hn⟩ : ∃ n, l.length = n := ⟨_, rfl⟩
  rw [hn] at h1 h2 hl ⊢
  have HN := Lib.hid hn
  have H1 := Lib.hid h1
  have H2 := Lib.hid h2
  clear hn h1 h2
  go_enter Tryd.func48, Tryd.ntmps48
  go_wp2
  go_loopw [5] (fun i wr => ∃ k nq : Nat, k ≤ n ∧ i = .int .i64 k ∧ wr = w.drewN nq) (fun i _ => n - (intOf i).toNat)
  case atStart => exact ⟨0, 0, Nat.zero_le _, rfl, rfl⟩
  case round =>
    obtain ⟨k, nq, hk, rfl, rfl⟩ := hrel
    by_cases hlt : k < n
    · obtain ⟨g1, rfl, hc1⟩ : ∃ g, A1 = some ⟨g, 0, none⟩ ∧ ∀ j u, (coordCells l)[j]? = some u → w.cell? ⟨g, j, none⟩ = some u := by
        rcases H1.out with q | q
        · omega
        · exact q
      obtain ⟨g2, rfl, hc2⟩ : ∃ g, A2 = some ⟨g, 0, none⟩ ∧ ∀ j u, (coordCells l)[j]? = some u → w.cell? ⟨g, j, none⟩ = some u := by
        rcases H2.out with q | q
        · omega
        · exact q
      obtain ⟨⟨p, q⟩, hp⟩ : ∃ p, l[k]? = some p := ⟨_, List.getElem?_eq_getElem (by have := HN.out; omega)⟩
      have hat := coordCells_at l k (p, q) hp
      have a0 := hc1 _ _ hat.1
      have a1 := hc1 _ _ hat.2
      have b0 := hc2 _ _ hat.1
      have b1 := hc2 _ _ hat.2
      clear hat hp hc1 hc2 H1 H2
      have i0 : (0 : Int) ≤ k := by omega
      have i1 : (k : Int) < n := by omega
      go_wp2
      go_quiet (fail)
      go_wp2
      go_roundw
      case rel => exact ⟨k + 1, _, by omega, by go_num, rfl⟩
      case measure => simp [intOf]; omega
    · go_wp2
      go_ret
      exact ⟨rfl, below_drewN (Below.refl _ _)⟩

end Go.Proofs.YtdodfeoaioolnaaDoor
