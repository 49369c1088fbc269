import Derived.Laws.MakeOwn
import Derived.Deep.MidRow
import Derived.Test.YtnpblpbcchminaaGreatDoorKbKeysChain
/- Rows of hashes that are filled one by one. Condition: the table reads as listed. -/
namespace Go.Proofs.YtnpblpbcchminaaGreatDoor
open Go.ChangeShapes Go.WideShapes Go.ChangeAt Go.RowKit
set_option linter.unusedVariables false
/-- the first k of the row's n hashes are there -/
def FillC (cs : List Value) (n : Nat) (f : Nat → List UInt8) (k : Nat) : Prop := cs.length = n * 32 ∧ ∀ i, i < k → ∀ (j : Nat) (v : Value), (bytesV (f i))[j]? = some v → cs[i * 32 + j]? = some v
theorem FillC.new {cs : List Value} {n : Nat} (f : Nat → List UInt8) (h : cs.length = n * 32) : FillC cs n f 0 := ⟨h, fun i hi => by omega⟩
theorem FillC.set {cs : List Value} {n : Nat} {f : Nat → List UInt8} {k : Nat} (h : FillC cs n f k) (hk : k < n) (h32 : ∀ i, (f i).length = 32) : FillC (setAll cs (k * 32) (bytesV (f k))) n f (k + 1) := by
  refine ⟨by rw [setAll_length]; exact h.1, fun i hi j v hj => ?_⟩
  have hl : j < 32 := by have := (List.getElem?_eq_some_iff.1 hj).1; rw [bytesV_length, h32] at this; exact this
  by_cases e : i = k
  · subst e
    exact setAll_at _ _ _ _ _ (by rw [bytesV_length, h32, h.1]; omega) hj
  · rw [setAll_other _ _ _ _ (by omega)]
    exact h.2 i (by omega) j v hj
/-- a row that is full is a list of hashes -/
theorem FillC.hin {cs : List Value} {n : Nat} {f : Nat → List UInt8} {w : World} {g t : Nat} (h : FillC cs n f n) (h32 : ∀ i, (f i).length = 32) (hg : w.heap[g]? = some (.cells cs.toArray t (0, 0))) (hn : n ≤ 1000000000) : HIn w (some ⟨g, 0, none⟩) n n ((List.range n).map f) := by
  have hh : H32 ((List.range n).map f) := fun x hx => by
    obtain ⟨i, -, rfl⟩ := List.mem_map.1 hx
    exact h32 i
  refine ⟨hh, by simp, Nat.le_refl _, by omega, .inr ⟨g, 0, rfl, rangeAt_rows hh (fun i x hi => ?_)⟩⟩
  intro j v hj
  have hi' : i < n := by have := (List.getElem?_eq_some_iff.1 hi).1; simpa using this
  have hx : f i = x := by simpa [hi'] using hi
  rw [Nat.zero_add, cell_of_row w g _ _ t (0, 0) hg, List.getElem?_toArray]
  exact h.2 i hi' j v (by rw [hx]; exact hj)
theorem there_row {w : World} {g o n t : Nat} {cs : List Value} (hg : w.heap[g]? = some (.cells cs.toArray t (0, 0))) (hl : o + n ≤ cs.length) : w.there g o n := fun j hj =>
  ⟨by rw [cell_of_row w g (o + j) _ t (0, 0) hg, List.getElem?_toArray, List.getElem?_eq_getElem (by omega)]; rfl, frozen_of_row w g (o + j) _ t hg⟩
theorem st_mid {pred : Nat → Prop} {base w n : World} {b o t : Nat} {cs vs : List Value} (h : But pred base w) (hn : w.setCells b o vs = n) (hp : b < base.heap.size → pred b) (hr : w.heap[b]? = some (.cells cs.toArray t (0, 0))) : But pred base n ∧ n.heap[b]? = some (.cells (setAll cs o vs).toArray t (0, 0)) ∧ ∀ (k : Nat) (x : Obj), k ≠ b → w.heap[k]? = some x → n.heap[k]? = some x := by
  subst hn
  have h2 : But (· = b) w (w.setCells b o vs) := (But.refl _ _).setCells (fun _ => rfl)
  refine ⟨?_, heap_setCells_at vs o w cs hr, fun k x hk hx => (h2.same k (Array.getElem?_eq_some_iff.1 hx).1 hk).trans hx⟩
  by_cases hb : b < base.heap.size
  · exact h.step h2 (fun k hk q => by subst q; exact hp hb)
  · exact h.step h2 (fun k hk q => by omega)
/-- a new row for n hashes -/
theorem make_hashes (n : Nat) (hn : n ≤ 1048576) : ∃ cs : List Value, cs.length = n * 32 ∧ ∀ w, (Instr.makeSlice 24 (.int .i64 n) (.int .i64 n)).run Tryz.prog w = .ok (.slice (some ⟨w.heap.size, 0, none⟩) n n) (w.alloc (.cells cs.toArray 23)) := by
  refine ⟨(Go.madeCells (Value.agg (List.replicate 32 (Value.int .u8 0)).toArray).cells ((n : Int).toNat * 32)).toList, by rw [Array.length_toList, Go.size_madeCells]; congr 1, fun w => ?_⟩
  obtain ⟨i, hi, hz, hs, hb⟩ : ∃ i, Tryz.prog.info? 23 = some i ∧ i.zero = some (.agg (List.replicate 32 (Value.int .u8 0)).toArray) ∧ i.size = 32 ∧ i.bytes = 32 := by
    have := info_hash
    cases hq : Tryz.prog.info? 23 with
    | none => rw [hq] at this; cases this
    | some i => rw [hq] at this; simp only [Option.map_some, Option.some.injEq, Prod.mk.injEq] at this; exact ⟨i, rfl, this.1, this.2.1, this.2.2⟩
  have := run_make (P := Tryz.prog) w 24 23 i (.agg (List.replicate 32 (Value.int .u8 0)).toArray) Tryz.underlying24 hi hz .i64 .i64 (n : Int) (n : Int) (by omega) (by omega) (by rw [hb]; omega) (by omega)
  rw [this, hs, Array.toArray_toList]; rfl
end Go.Proofs.YtnpblpbcchminaaGreatDoor
