/- cartularylaw01.Beyond: are lengths, taken together, too many? No condition. -/
import Derived.Test.YtnpblpbcchminaaGreatDoorMem
import Derived.Test.YtnpblpbcchminaaGreatDoorRows
namespace Go.Proofs.YtnpblpbcchminaaGreatDoor
open Go.ChangeShapes Go.WideShapes Go.ChangeAt Go.RowKit
set_option linter.unusedVariables false
/-- the sum of the first k -/
def sumTo (l : List Nat) (k : Nat) : Nat := (l.take k).sum
theorem sumTo_step {l : List Nat} {k x : Nat} (h : l[k]? = some x) : sumTo l (k + 1) = sumTo l k + x := by
  unfold sumTo; rw [List.take_add_one, h]; simp
theorem sumTo_le (l : List Nat) (k : Nat) : sumTo l k ≤ l.sum := by
  unfold sumTo
  have := List.sum_append (l₁ := l.take k) (l₂ := l.drop k)
  rw [List.take_append_drop] at this; omega
theorem sumTo_all (l : List Nat) : sumTo l l.length = l.sum := by unfold sumTo; rw [List.take_length]
attribute [irreducible] sumTo
set_option maxRecDepth 100000 in
set_option maxHeartbeats 2000000 in
theorem beyond_any (l : List Nat) (g n c : Nat) (w : World) (hn : l.length = n) (hx : ∀ x ∈ l, x ≤ 9000000000000000000) (hr : ∀ (j x : Nat), l[j]? = some x → w.cell? ⟨g, j, none⟩ = some (.int .i64 x)) (hnm : n ≤ 1000) :
    Calls Tryz.prog 6 #[.slice (some ⟨g, 0, none⟩) n c] w fun ev w' => ev = .returned (.bool (decide (1048576 < l.sum))) ∧ w = w' := by
  have HN := Lib.hid (And.intro hn (And.intro hx hr))
  clear hn hx hr
  go_enter Tryz.func6, Tryz.ntmps6
  go_wp2
  go_loop [3, 4] (fun s i => ∃ k t : Nat, k ≤ n ∧ i = .int .i64 k ∧ s = .int .i64 t ∧ t ≤ 1048576 ∧ Hid (t = sumTo l k)) (fun _ i => n - (intOf i).toNat)
  case atStart => exact ⟨0, 0, Nat.zero_le _, rfl, rfl, by omega, Lib.hid (by unfold sumTo; simp)⟩
  case round =>
    obtain ⟨k, t, hk, rfl, rfl, ht, HT⟩ := hrel
    by_cases hlt : k < n
    · obtain ⟨x, hx⟩ : ∃ x, l[k]? = some x := ⟨_, List.getElem?_eq_getElem (by have := HN.out.1; omega)⟩
      have hc := HN.out.2.2 k x hx
      have hxb := HN.out.2.1 x (List.mem_of_getElem? hx)
      have hst := Lib.hid (sumTo_step hx)
      have i0 : (0 : Int) ≤ k := by omega
      have i1 : (k : Int) < n := by omega
      clear hx
      by_cases hgt : 1048576 < t + x
      · have hgt' : (1048576 : Int) < (t : Int) + x := by omega
        go_wp2
        go_ret
        refine ⟨ret_bool ?_, rfl⟩
        have := sumTo_le l (k + 1)
        have h1 := hst.out
        have h2 := HT.out
        simp; omega
      · have hle : ((t : Int) + x) ≤ 1048576 := by omega
        go_wp2
        go_round
        case rel => exact ⟨k + 1, t + x, by omega, by go_num, by go_num, by omega, Lib.hid (by rw [hst.out, HT.out])⟩
        case measure => simp [intOf]; omega
    · obtain rfl : k = n := by omega
      go_wp2
      go_ret
      refine ⟨ret_bool ?_, rfl⟩
      have h2 := HT.out
      rw [← HN.out.1, sumTo_all] at h2
      simp; omega
end Go.Proofs.YtnpblpbcchminaaGreatDoor
