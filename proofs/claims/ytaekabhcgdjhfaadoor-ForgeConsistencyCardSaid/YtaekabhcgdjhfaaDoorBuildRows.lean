/- A slice literal of arrays by value: several rows. No program in sight but its types. -/
import Derived.Test.YtaekabhcgdjhfaaDoorHashAid
namespace Go.Proofs.YtaekabhcgdjhfaaDoor
open Go.ChangeShapes Go.WideShapes Go.ChangeAt Go.RowKit
set_option linter.unusedVariables false
theorem fold_sets_at : ∀ (l : List Value) (off k : Nat) (A : Array Value), off + k + l.length ≤ A.size →
    ((l.zipIdx k).foldl (fun cs p => cs.setIfInBounds (off + p.2) p.1) A).toList = A.toList.take (off + k) ++ l ++ A.toList.drop (off + k + l.length)
  | [], off, k, A, _ => by simp
  | v :: r, off, k, A, h => by
    have hk : off + k < A.size := by simp at h; omega
    rw [List.zipIdx_cons, List.foldl_cons, fold_sets_at r off (k + 1) _ (by simp at h ⊢; omega)]
    simp only [Array.toList_setIfInBounds]
    have hkl : (A.toList.take (off + k)).length = off + k := by simp; omega
    have e1 : (A.toList.set (off + k) v).take (off + (k + 1)) = A.toList.take (off + k) ++ [v] := by
      refine List.ext_getElem? fun i => ?_
      by_cases hi : i < off + k
      · rw [List.getElem?_take_of_lt (by omega), List.getElem?_set_ne (by omega), List.getElem?_append_left (by simp; omega), List.getElem?_take_of_lt hi]
      · by_cases he : i = off + k
        · subst he; rw [List.getElem?_take_of_lt (by omega), List.getElem?_set_self (by simpa using hk), List.getElem?_append_right (by omega), hkl, Nat.sub_self]; rfl
        · rw [List.getElem?_eq_none (by simp; omega), List.getElem?_eq_none (by simp; omega)]
    have e2 : (A.toList.set (off + k) v).drop (off + (k + 1) + r.length) = A.toList.drop (off + k + (v :: r).length) := by
      rw [List.drop_set_of_lt (by omega)]; simp; congr 1; omega
    rw [e1, e2]; simp
def partsOf : Nat → List (Array Value) → List (Nat × Value)
  | _, [] => []
  | i, c :: r => (i, .agg c) :: partsOf (i + 1) r
theorem fill_rows (n : Nat) : ∀ (rows : List (Array Value)) (i : Nat) (A : Array Value), (∀ c ∈ rows, c.size = n) → (i + rows.length) * n ≤ A.size →
    ∃ A', Instr.fill (fun i => some (i * n, n)) A (partsOf i rows) = some A' ∧ A'.toList = A.toList.take (i * n) ++ rows.flatMap Array.toList ++ A.toList.drop ((i + rows.length) * n)
  | [], i, A, _, _ => ⟨A, rfl, by simp⟩
  | c :: r, i, A, hs, hl => by
    have hc := hs c (by simp)
    have hl' : i * n + n + r.length * n ≤ A.size := by simp at hl; have e : (i + (r.length + 1)) * n = i * n + n + r.length * n := by rw [Nat.add_mul, Nat.add_mul]; omega
                                                       omega
    obtain ⟨A1, hA1⟩ : ∃ A1, c.zipIdx.foldl (fun cs p => cs.setIfInBounds (i * n + p.2) p.1) A = A1 := ⟨_, rfl⟩
    have h1 := fold_sets_at c.toList (i * n) 0 A (by simp; omega)
    rw [← Array.toList_zipIdx, Array.foldl_toList, hA1] at h1
    simp only [Nat.add_zero, Array.length_toList, hc] at h1
    have hA1s : A1.size = A.size := by
      have := congrArg List.length h1
      simp at this; omega
    have e1 : (i + 1 + r.length) * n = i * n + n + r.length * n := by rw [Nat.add_mul, Nat.add_mul]; omega
    obtain ⟨A', h2, h3⟩ := fill_rows n r (i + 1) A1 (fun x hx => hs x (by simp [hx])) (by rw [hA1s, e1]; exact hl')
    refine ⟨A', ?_, ?_⟩
    · rw [partsOf, Instr.fill]
      simp only [Value.cells, hc]
      rw [if_neg (by simp; omega)]
      have : c.zipIdx.foldl (fun cs (x : Value × Nat) => match x with | (c, j) => cs.setIfInBounds (i * n + j) c) A = A1 := hA1
      rw [this]; exact h2
    · rw [h3, h1]
      have ht : (A.toList.take (i * n) ++ c.toList).length = i * n + n := by simp; omega
      rw [show (i + 1) * n = (A.toList.take (i * n) ++ c.toList).length by rw [ht, Nat.add_mul]; omega, List.take_left', e1]
      · rw [List.drop_append, List.drop_eq_nil_of_le (by rw [ht]; omega), List.nil_append, ht, List.drop_drop, List.flatMap_cons, List.length_cons]
        have e2 : i * n + n + (i * n + n + r.length * n - (i * n + n)) = (i + (r.length + 1)) * n := by rw [Nat.add_mul, Nat.add_mul]; omega
        rw [e2]; simp
      · rfl
theorem run_buildSlice_rows {P : Program} (w : World) (t e : TypeId) (rows : List (Array Value)) (z : Value) (n k : Nat) (ht : P.underlying t = some (.slice e)) (hsz : ∀ w, (sizeOf e).run P w = .ok n w) (hz : ∀ w, (zeroValue e).run P w = .ok z w)
    (hk : rows.length = k) (hcs : ∀ c ∈ rows, c.size = n) (h0 : 0 < k * n) (hn : k * n ≤ 2 ^ 24) :
    (Instr.buildSlice t k (partsOf 0 rows).toArray).run P w = .ok (.slice (some ⟨w.heap.size, 0, none⟩) k k) (w.alloc (.cells (rows.flatMap Array.toList).toArray e)) := by
  obtain ⟨A', h1, h2⟩ := fill_rows n rows 0 ((Array.range (k * n)).map (fun x => z.cells[x % z.cells.size]!)) hcs (by simp [hk])
  have h3 : A' = (rows.flatMap Array.toList).toArray := by
    refine Array.ext' ?_
    rw [h2, hk]; simp
  subst h3
  unfold Instr.buildSlice
  simp [run_underlying ht, hsz, hz, Nat.not_lt.2 hn, Nat.ne_of_gt h0, h1, newRow]
theorem wpList_buildSlice_rows {P : Program} {ops : Array Oper} {rest : List Oper} {o : Oper} {a : Act} {w : World} {Q : Exit → Act → World → Prop} (hw : Region.wanted o (yielded ops a.tmps) = true) (t e : TypeId) (ps : Array (Nat × Operand)) (rows : List (Array Value)) (z : Value) (n k : Nat)
    (ho : o.op = .buildSlice t k ps) (hps : (ps.map fun p => (p.1, a.eval p.2)) = (partsOf 0 rows).toArray)
    (ht : P.underlying t = some (.slice e)) (hsz : ∀ w, (sizeOf e).run P w = .ok n w) (hz : ∀ w, (zeroValue e).run P w = .ok z w)
    (hk : rows.length = k) (hcs : ∀ c ∈ rows, c.size = n) (h0 : 0 < k * n) (hn : k * n ≤ 2 ^ 24)
    (h : wpList P ops Q rest (a.put o.dst (.slice (some ⟨w.heap.size, 0, none⟩) k k)) (w.alloc (.cells (rows.flatMap Array.toList).toArray e))) : wpList P ops Q (o :: rest) a w :=
  wpList_step fun K hK => by
    rw [if_pos hw]
    unfold Oper.wp execOp
    have e1 : (ps.map fun x => match x with | (i, x) => (i, a.eval x)) = (partsOf 0 rows).toArray := hps
    simp only [ho, e1, Sem.run_bind, Sem.run_pure, Result.andThen_ok, run_buildSlice_rows w t e rows z n k ht hsz hz hk hcs h0 hn]
    exact hK _ _ h
/-- the new list of these hashes -/
theorem hin_rows (w : World) (hs : List (List UInt8)) (rows : List (Array Value)) (h32 : H32 hs) (hr : rows = hs.map fun h => (bytesV h).toArray) (k : Nat) (hk : hs.length = k) (hk9 : k ≤ 1000) : HIn (w.alloc (.cells (rows.flatMap Array.toList).toArray 34)) (some ⟨w.heap.size, 0, none⟩) k k hs := by
  refine ⟨h32, hk, Nat.le_refl _, by omega, .inr ⟨_, _, rfl, fun j v hj => ?_⟩⟩
  rw [Nat.zero_add]
  refine cell_new _ _ j v ?_
  have e : rows.flatMap Array.toList = hashCells hs := by
    subst hr; unfold hashCells; rw [List.flatMap_map]
  rw [e]; simpa using hj
end Go.Proofs.YtaekabhcgdjhfaaDoor
