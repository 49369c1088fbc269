/- The stretches of a proof: those ahead of old, and those from old on. No program in sight. -/
import Derived.Test.YtnddjadjmgfgnaaDoorAllPlain
import Derived.Test.YtnddjadjmgfgnaaDoorShapeProof
namespace Go.Proofs.YtnddjadjmgfgnaaDoor
open Go.ChangeShapes Go.WideShapes Go.ChangeAt Go.RowKit
set_option linter.unusedVariables false
def ahead (old : Int) (l : List (Int × Int)) : List (Int × Int) := l.filter fun p => decide (p.1 < old)
def behind (old : Int) (l : List (Int × Int)) : List (Int × Int) := l.filter fun p => decide (old ≤ p.1)
theorem ahead_append (old : Int) (l m : List (Int × Int)) : ahead old (l ++ m) = ahead old l ++ ahead old m := by simp [ahead]
theorem behind_append (old : Int) (l m : List (Int × Int)) : behind old (l ++ m) = behind old l ++ behind old m := by simp [behind]
theorem ahead_yes {old b e : Int} (h : b < old) : ahead old [(b, e)] = [(b, e)] := by simp [ahead, h]
theorem ahead_no {old b e : Int} (h : old ≤ b) : ahead old [(b, e)] = [] := by simp [ahead]; omega
theorem behind_yes {old b e : Int} (h : old ≤ b) : behind old [(b, e)] = [(b, e)] := by simp [behind, h]
theorem behind_no {old b e : Int} (h : b < old) : behind old [(b, e)] = [] := by simp [behind]; omega
structure Parts (old b e : Int) (l : List (Int × Int)) : Prop where
  each : ∀ p ∈ l, p.1 < p.2 ∧ (old ≤ p.1 ∨ p.2 ≤ old)
  hind : ∃ C, Chain old C e ∧ C.Perm (behind old l)
  fore : (ahead old l = [] ∧ b = 0) ∨ ∃ C, Chain b C old ∧ C.Perm (ahead old l)
  log : (l.length : Int) ≤ lgI (e - b) + 1
theorem lgI_nonneg (n : Int) : 0 ≤ lgI n := by unfold lgI; omega
theorem parts_end {f : Nat} {b e : Int} (h0 : 0 ≤ b) (h1 : b < e) : Parts e b e (proofL f e b e) := by
  have hl := lgI_nonneg (e - b)
  rw [proofL_end]
  by_cases hb : 0 < b
  · rw [if_pos hb]
    refine ⟨fun p hp => ?_, ⟨[], rfl, by rw [behind_no h1]⟩, .inr ⟨[(b, e)], Chain.one h1, by rw [ahead_yes h1]⟩, by simp; omega⟩
    obtain rfl := List.mem_singleton.1 hp
    exact ⟨h1, .inr (Int.le_refl _)⟩
  · rw [if_neg hb]
    exact ⟨fun p hp => by simp at hp, ⟨[], rfl, List.Perm.refl _⟩, .inl ⟨rfl, by omega⟩, by simp; omega⟩
theorem proofL_parts : ∀ (f : Nat) (old b e : Int), 0 ≤ b → b < old → old ≤ e → e - b ≤ pow2 f → Parts old b e (proofL f old b e)
  | 0, old, b, e, h0, h1, h2, hp => by
      rw [pow2_zero] at hp
      obtain rfl : e = old := by omega
      exact parts_end h0 h1
  | f + 1, old, b, e, h0, h1, h2, hp => by
      by_cases he : e = old
      · subst he; exact parts_end h0 h1
      · have hk := blwI_bd (n := e - b) (by omega)
        have hkf := blwI_le_pow (n := e - b) (f := f) (by omega) hp
        have hl := lgI_blwI (n := e - b) (by omega)
        rw [proofL, if_neg he]
        obtain ⟨m, hm⟩ : ∃ m, b + blwI (e - b) = m := ⟨_, rfl⟩
        rw [hm]
        by_cases h3 : old ≤ m
        · rw [if_pos h3]
          have ih := proofL_parts f old b m h0 h1 h3 (by omega)
          refine ⟨fun p hp => ?_, ?_, ?_, ?_⟩
          · rcases List.mem_append.1 hp with hp | hp
            · exact ih.each p hp
            · obtain rfl := List.mem_singleton.1 hp
              exact ⟨by simp only; omega, .inl h3⟩
          · obtain ⟨C, c1, c2⟩ := ih.hind
            exact ⟨C ++ [(m, e)], c1.append (Chain.one (by omega)), by rw [behind_append, behind_yes h3]; exact c2.append_right _⟩
          · rw [ahead_append, ahead_no h3, List.append_nil]; exact ih.fore
          · have := ih.log
            rw [show m - b = blwI (e - b) by omega] at this
            rw [List.length_append]; simp; omega
        · rw [if_neg h3]
          have ih := proofL_parts f old m e (by omega) (by omega) h2 (by omega)
          refine ⟨fun p hp => ?_, ?_, ?_, ?_⟩
          · rcases List.mem_append.1 hp with hp | hp
            · exact ih.each p hp
            · obtain rfl := List.mem_singleton.1 hp
              exact ⟨by simp only; omega, .inr (by simp only; omega)⟩
          · rw [behind_append, behind_no h1, List.append_nil]; exact ih.hind
          · rcases ih.fore with ⟨_, q⟩ | ⟨C, c1, c2⟩
            · omega
            · exact .inr ⟨(b, m) :: C, ⟨rfl, by omega, c1⟩, by rw [ahead_append, ahead_yes h1]; exact (c2.cons _).trans (List.perm_append_comm (l₁ := [(b, m)]))⟩
          · have := ih.log
            have hmm := lgI_mono (show e - m ≤ blwI (e - b) by omega)
            rw [List.length_append]; simp; omega
end Go.Proofs.YtnddjadjmgfgnaaDoor
