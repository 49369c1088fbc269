import Derived.Test.YtdodfeoaioolnaaDoorHashAid
import Derived.Test.YtdodfeoaioolnaaDoorSameLists
import Derived.Test.YtdodfeoaioolnaaDoorPartMem
import Derived.Deep.Cut
import Derived.BigRegion
import Derived.Deep.DeepCutAuto
import Derived.Deep.RegionHeld
import Derived.Test.YtdodfeoaioolnaaDoorPlanApi
import Derived.Test.YtdodfeoaioolnaaDoorTilesOk
import Derived.Test.YtdodfeoaioolnaaDoorFoldFn
/- A slice literal of arrays by value: several rows. No program in sight but its types. -/
namespace Go.Proofs.YtdodfeoaioolnaaDoor
open Go.ChangeShapes Go.WideShapes Go.ChangeAt Go.RowKit
set_option linter.unusedVariables false
theorem fold_sets_at : ∀ (l : List Value) (off k : Nat) (A : Array Value), off + k + l.length ≤ A.size →
    ((l.zipIdx k).foldl (fun cs p => cs.setIfInBounds (off + p.2) p.1) A).toList = A.toList.take (off + k) ++ l ++ A.toList.drop (off + k + l.length)
  | [], off, k, A, _ => by simp
  | v :: r, off, k, A, h => by
    have hk : off + k < A.size := by simp at h; omega
    rw [List.zipIdx_cons, List.foldl_cons, fold_sets_at r off (k + 1) _ (by simp at h ⊢; omega)]
    simp only [Array.toList_setIfInBounds]
    have hkl : (A.toList.take (off + k)).length = off + k := by simp; omega
    have e1 : (A.toList.set (off + k) v).take (off + (k + 1)) = A.toList.take (off + k) ++ [v] := by
      refine List.ext_getElem? fun i => ?_
      by_cases hi : i < off + k
      · rw [List.getElem?_take_of_lt (by omega), List.getElem?_set_ne (by omega), List.getElem?_append_left (by simp; omega), List.getElem?_take_of_lt hi]
      · by_cases he : i = off + k
        · subst he; rw [List.getElem?_take_of_lt (by omega), List.getElem?_set_self (by simpa using hk), List.getElem?_append_right (by omega), hkl, Nat.sub_self]; rfl
        · rw [List.getElem?_eq_none (by simp; omega), List.getElem?_eq_none (by simp; omega)]
    have e2 : (A.toList.set (off + k) v).drop (off + (k + 1) + r.length) = A.toList.drop (off + k + (v :: r).length) := by
      rw [List.drop_set_of_lt (by omega)]; simp; congr 1; omega
    rw [e1, e2]; simp
def partsOf : Nat → List (Array Value) → List (Nat × Value)
  | _, [] => []
  | i, c :: r => (i, .agg c) :: partsOf (i + 1) r
theorem fill_rows (n : Nat) : ∀ (rows : List (Array Value)) (i : Nat) (A : Array Value), (∀ c ∈ rows, c.size = n) → (i + rows.length) * n ≤ A.size →
    ∃ A', Instr.fill (fun i => some (i * n, n)) A (partsOf i rows) = some A' ∧ A'.toList = A.toList.take (i * n) ++ rows.flatMap Array.toList ++ A.toList.drop ((i + rows.length) * n)
  | [], i, A, _, _ => ⟨A, rfl, by simp⟩
  | c :: r, i, A, hs, hl => by
    have hc := hs c (by simp)
    have hl' : i * n + n + r.length * n ≤ A.size := by simp at hl; have e : (i + (r.length + 1)) * n = i * n + n + r.length * n := by rw [Nat.add_mul, Nat.add_mul]; omega
                                                       omega
    obtain ⟨A1, hA1⟩ : ∃ A1, c.zipIdx.foldl (fun cs p => cs.setIfInBounds (i * n + p.2) p.1) A = A1 := ⟨_, rfl⟩
    have h1 := fold_sets_at c.toList (i * n) 0 A (by simp; omega)
    rw [← Array.toList_zipIdx, Array.foldl_toList, hA1] at h1
    simp only [Nat.add_zero, Array.length_toList, hc] at h1
    have hA1s : A1.size = A.size := by
      have := congrArg List.length h1
      simp at this; omega
    have e1 : (i + 1 + r.length) * n = i * n + n + r.length * n := by rw [Nat.add_mul, Nat.add_mul]; omega
    obtain ⟨A', h2, h3⟩ := fill_rows n r (i + 1) A1 (fun x hx => hs x (by simp [hx])) (by rw [hA1s, e1]; exact hl')
    refine ⟨A', ?_, ?_⟩
    · rw [partsOf, Instr.fill]
      simp only [Value.cells, hc]
      rw [if_neg (by simp; omega)]
      have : c.zipIdx.foldl (fun cs (x : Value × Nat) => match x with | (c, j) => cs.setIfInBounds (i * n + j) c) A = A1 := hA1
      rw [this]; exact h2
    · rw [h3, h1]
      have ht : (A.toList.take (i * n) ++ c.toList).length = i * n + n := by simp; omega
      rw [show (i + 1) * n = (A.toList.take (i * n) ++ c.toList).length by rw [ht, Nat.add_mul]; omega, List.take_left', e1]
      · rw [List.drop_append, List.drop_eq_nil_of_le (by rw [ht]; omega), List.nil_append, ht, List.drop_drop, List.flatMap_cons, List.length_cons]
        have e2 : i * n + n + (i * n + n + r.length * n - (i * n + n)) = (i + (r.length + 1)) * n := by rw [Nat.add_mul, Nat.add_mul]; omega
        rw [e2]; simp
      · rfl
theorem run_buildSlice_rows {P : Program} (w : World) (t e : TypeId) (rows : List (Array Value)) (z : Value) (n k : Nat) (ht : P.underlying t = some (.slice e)) (hsz : ∀ w, (sizeOf e).run P w = .ok n w) (hz : ∀ w, (zeroValue e).run P w = .ok z w)
    (hk : rows.length = k) (hcs : ∀ c ∈ rows, c.size = n) (h0 : 0 < k * n) (hn : k * n ≤ 2 ^ 24) :
    (Instr.buildSlice t k (partsOf 0 rows).toArray).run P w = .ok (.slice (some ⟨w.heap.size, 0, none⟩) k k) (w.alloc (.cells (rows.flatMap Array.toList).toArray e)) := by
  obtain ⟨A', h1, h2⟩ := fill_rows n rows 0 ((Array.range (k * n)).map (fun x => z.cells[x % z.cells.size]!)) hcs (by simp [hk])
  have h3 : A' = (rows.flatMap Array.toList).toArray := by
    refine Array.ext' ?_
    rw [h2, hk]; simp
  subst h3
  unfold Instr.buildSlice
  simp [run_underlying ht, hsz, hz, Nat.not_lt.2 hn, Nat.ne_of_gt h0, h1, newRow]
theorem wpList_buildSlice_rows {P : Program} {ops : Array Oper} {rest : List Oper} {o : Oper} {a : Act} {w : World} {Q : Exit → Act → World → Prop} (hw : Region.wanted o (yielded ops a.tmps) = true) (t e : TypeId) (ps : Array (Nat × Operand)) (rows : List (Array Value)) (z : Value) (n k : Nat)
    (ho : o.op = .buildSlice t k ps) (hps : (ps.map fun p => (p.1, a.eval p.2)) = (partsOf 0 rows).toArray)
    (ht : P.underlying t = some (.slice e)) (hsz : ∀ w, (sizeOf e).run P w = .ok n w) (hz : ∀ w, (zeroValue e).run P w = .ok z w)
    (hk : rows.length = k) (hcs : ∀ c ∈ rows, c.size = n) (h0 : 0 < k * n) (hn : k * n ≤ 2 ^ 24)
    (h : wpList P ops Q rest (a.put o.dst (.slice (some ⟨w.heap.size, 0, none⟩) k k)) (w.alloc (.cells (rows.flatMap Array.toList).toArray e))) : wpList P ops Q (o :: rest) a w :=
  wpList_step fun K hK => by
    rw [if_pos hw]
    unfold Oper.wp execOp
    have e1 : (ps.map fun x => match x with | (i, x) => (i, a.eval x)) = (partsOf 0 rows).toArray := hps
    simp only [ho, e1, Sem.run_bind, Sem.run_pure, Result.andThen_ok, run_buildSlice_rows w t e rows z n k ht hsz hz hk hcs h0 hn]
    exact hK _ _ h
/-- the new list of these hashes -/
theorem hin_rows (w : World) (hs : List (List UInt8)) (rows : List (Array Value)) (h32 : H32 hs) (hr : rows = hs.map fun h => (bytesV h).toArray) (k : Nat) (hk : hs.length = k) (hk9 : k ≤ 1000) : HIn (w.alloc (.cells (rows.flatMap Array.toList).toArray 26)) (some ⟨w.heap.size, 0, none⟩) k k hs := by
  refine ⟨h32, hk, Nat.le_refl _, by omega, .inr ⟨_, _, rfl, fun j v hj => ?_⟩⟩
  rw [Nat.zero_add]
  refine cell_new _ _ j v ?_
  have e : rows.flatMap Array.toList = hashCells hs := by
    subst hr; unfold hashCells; rw [List.flatMap_map]
  rw [e]; simpa using hj
end Go.Proofs.YtdodfeoaioolnaaDoor

/- cartularylaw01.SameTiles, SameParts: lists that read as one answer true. No condition. -/
namespace Go.Proofs.YtdodfeoaioolnaaDoor
open Go.ChangeShapes Go.WideShapes Go.ChangeAt Go.RowKit
set_option linter.unusedVariables false
theorem same_tiles (l : List (Nat × Nat × Nat)) (v1 v2 : Value) (w : World) (hl : l.length ≤ 1000000000) (h1 : Rd w v1 3 l.length (tileCells l)) (h2 : Rd w v2 3 l.length (tileCells l)) :
    Calls Tryd.prog 39 #[v1, v2] w fun e w' => e = .returned (.bool true) ∧ Below w.heap.size w w' := by
  obtain ⟨_, A1, c1, rfl, h1⟩ := h1
  obtain ⟨_, A2, c2, rfl, h2⟩ := h2
  obtain ⟨n, hn⟩ : ∃ n, l.length = n := ⟨_, rfl⟩
  rw [hn] at h1 h2 hl ⊢
  have HN := Lib.hid hn
  have H1 := Lib.hid h1
  have H2 := Lib.hid h2
  clear hn h1 h2
  go_enter Tryd.func39, Tryd.ntmps39
  go_wp2
  go_loopw [5] (fun i wr => ∃ k nq : Nat, k ≤ n ∧ i = .int .i64 k ∧ wr = w.drewN nq) (fun i _ => n - (intOf i).toNat)
  case atStart => exact ⟨0, 0, Nat.zero_le _, rfl, rfl⟩
  case round =>
    obtain ⟨k, nq, hk, rfl, rfl⟩ := hrel
    by_cases hlt : k < n
    · obtain ⟨g1, rfl, hc1⟩ : ∃ g, A1 = some ⟨g, 0, none⟩ ∧ ∀ j u, (tileCells l)[j]? = some u → w.cell? ⟨g, j, none⟩ = some u := by
        rcases H1.out with q | q
        · omega
        · exact q
      obtain ⟨g2, rfl, hc2⟩ : ∃ g, A2 = some ⟨g, 0, none⟩ ∧ ∀ j u, (tileCells l)[j]? = some u → w.cell? ⟨g, j, none⟩ = some u := by
        rcases H2.out with q | q
        · omega
        · exact q
      obtain ⟨⟨p, q, r⟩, hp⟩ : ∃ p, l[k]? = some p := ⟨_, List.getElem?_eq_getElem (by have := HN.out; omega)⟩
      have hat := tileCells_at l k (p, q, r) hp
      have a0 := hc1 _ _ hat.1
      have a1 := hc1 _ _ hat.2.1
      have a2 := hc1 _ _ hat.2.2
      have b0 := hc2 _ _ hat.1
      have b1 := hc2 _ _ hat.2.1
      have b2 := hc2 _ _ hat.2.2
      clear hat hp hc1 hc2 H1 H2
      have i0 : (0 : Int) ≤ k := by omega
      have i1 : (k : Int) < n := by omega
      go_wp2
      go_quiet (fail)
      go_wp2
      go_roundw
      case rel => exact ⟨k + 1, _, by omega, by go_num, rfl⟩
      case measure => simp [intOf]; omega
    · go_wp2
      go_ret
      exact ⟨rfl, below_drewN (Below.refl _ _)⟩
set_option maxRecDepth 100000 in
set_option maxHeartbeats 2000000 in
theorem same_parts (ps : List (List (Nat × Nat))) (v1 v2 : Value) (w : World) (hl : ps.length ≤ 1000000000) (hp : ∀ p ∈ ps, p.length ≤ 1000000) (h1 : PRd w v1 ps) (h2 : PRd w v2 ps) :
    Calls Tryd.prog 38 #[v1, v2] w fun e w' => e = .returned (.bool true) ∧ Below w.heap.size w w' := by
  obtain ⟨vs1, ⟨_, A1, c1, rfl, h1⟩, q1⟩ := h1
  obtain ⟨vs2, ⟨_, A2, c2, rfl, h2⟩, q2⟩ := h2
  obtain ⟨n, hn⟩ : ∃ n, ps.length = n := ⟨_, rfl⟩
  rw [hn] at h1 h2 hl ⊢
  have HN := Lib.hid hn
  have H1 := Lib.hid h1
  have H2 := Lib.hid h2
  have Q1 := Lib.hid q1
  have Q2 := Lib.hid q2
  have HP := Lib.hid hp
  clear hn h1 h2 q1 q2 hp
  go_enter Tryd.func38, Tryd.ntmps38
  go_wp2
  go_loopw [5] (fun i wr => ∃ k : Nat, k ≤ n ∧ i = .int .i64 k ∧ Hid (Below w.heap.size w wr)) (fun i _ => n - (intOf i).toNat)
  case atStart => exact ⟨0, Nat.zero_le _, rfl, Lib.hid (Below.refl _ _)⟩
  case round =>
    obtain ⟨k, hk, rfl, HB⟩ := hrel
    by_cases hlt : k < n
    · obtain ⟨g1, rfl, hc1⟩ : ∃ g, A1 = some ⟨g, 0, none⟩ ∧ ∀ j u, vs1[j]? = some u → w.cell? ⟨g, j, none⟩ = some u := by
        rcases H1.out with q | q
        · omega
        · exact q
      obtain ⟨g2, rfl, hc2⟩ : ∃ g, A2 = some ⟨g, 0, none⟩ ∧ ∀ j u, vs2[j]? = some u → w.cell? ⟨g, j, none⟩ = some u := by
        rcases H2.out with q | q
        · omega
        · exact q
      obtain ⟨p, hp⟩ : ∃ p, ps[k]? = some p := ⟨_, List.getElem?_eq_getElem (by have := HN.out; omega)⟩
      obtain ⟨u1, hu1, r1⟩ := Q1.out k p hp
      obtain ⟨u2, hu2, r2⟩ := Q2.out k p hp
      have a1 := hc1 k _ hu1
      have a2 := hc2 k _ hu2
      have l1 := block_of_cell a1
      have l2 := block_of_cell a2
      have b1 := cell_below HB.out a1 l1
      have b2 := cell_below HB.out a2 l2
      have hpl := HP.out p (List.mem_of_getElem? hp)
      have HS : Hid (∀ w', Below w.heap.size w w' → Calls Tryd.prog 48 #[u1, u2] w' fun e w2 => e = .returned (.bool true) ∧ Below w'.heap.size w' w2) := Lib.hid (fun w' h => same_coords p u1 u2 w' hpl (r1.below h) (r2.below h))
      have K : Hid (∀ w', Gr wr w' → w'.cell? ⟨g1, k, none⟩ = some u1 ∧ w'.cell? ⟨g2, k, none⟩ = some u2 ∧ Below w.heap.size w w') := Lib.hid (fun w' h => ⟨cell_below h b1 (block_of_cell b1), cell_below h b2 (block_of_cell b2), HB.out.trans (h.mono HB.out.size)⟩)
      have i0 : (0 : Int) ≤ k := by omega
      have i1 : (k : Int) < n := by omega
      clear hp hu1 hu2 hc1 hc2 r1 r2 hpl a1 a2 l1 l2
      go_wp2_with fail
      refine wp_region_held_drew (S := Gr wr) (by kernel_rfl) (Gr.drew (Gr.refl _)) (fun hHeld => ?_)
      refine wpAnyH_take (i := 0) (v := ?tv1) rfl (by kernel_rfl) (by kernel_rfl) (by kernel_rfl) (fun _ _ _ h => h) (Or.inl ⟨by rfl, ?ty1⟩) (by assumption) ?tr1
      case ty1 => (intro w hSw; (try dsimp only at hSw); go_simp; (try with_reducible rfl))
      try simp only [Act.put, List.getElem_toArray, List.getElem_cons_zero, List.setIfInBounds_toArray, List.set_cons_zero, List.set_cons_succ]
      refine wpAnyH_take (i := 1) (v := ?tv2) rfl (by kernel_rfl) (by kernel_rfl) (by kernel_rfl) (fun _ _ _ h => h) (Or.inl ⟨by rfl, ?ty2⟩) (by assumption) ?tr2
      case ty2 => (intro w hSw; (try dsimp only at hSw); go_simp; (try with_reducible rfl))
      try simp only [Act.put, List.getElem_toArray, List.getElem_cons_zero, List.getElem_cons_succ, List.setIfInBounds_toArray, List.set_cons_zero, List.set_cons_succ]
      refine wpAnyH_take (i := 2) (v := ?tv3) rfl (by kernel_rfl) (by kernel_rfl) (by kernel_rfl) (fun _ _ _ h => h) (Or.inl ⟨by rfl, ?ty3⟩) (by assumption) ?tr3
      case ty3 => (intro w hSw; (try dsimp only at hSw); go_simp; (try with_reducible rfl))
      try simp only [Act.put, List.getElem_toArray, List.getElem_cons_zero, List.getElem_cons_succ, List.setIfInBounds_toArray, List.set_cons_zero, List.set_cons_succ]
      refine wpAnyH_take (i := 3) (v := ?tv4) rfl (by kernel_rfl) (by kernel_rfl) (by kernel_rfl) (fun _ _ _ h => h) (Or.inl ⟨by rfl, ?ty4⟩) (by assumption) ?tr4
      case ty4 => (intro w hSw; (try dsimp only at hSw); go_simp; (try with_reducible rfl))
      try simp only [Act.put, List.getElem_toArray, List.getElem_cons_zero, List.getElem_cons_succ, List.setIfInBounds_toArray, List.set_cons_zero, List.set_cons_succ]
      refine wpAnyH_take (i := 4) (v := ?tv5) rfl (by kernel_rfl) (by kernel_rfl) (by kernel_rfl) (fun _ _ _ h => h) (Or.inl ⟨by rfl, ?ty5⟩) (by assumption) ?tr5
      case ty5 => (intro w hSw; (try dsimp only at hSw); have q8 := (K.out w hSw).1; have q9 := (K.out w hSw).2.1; have q6 := block_of_cell q8; have q7 := block_of_cell q9; go_simp; (try with_reducible rfl))
      try simp only [Act.put, List.getElem_toArray, List.getElem_cons_zero, List.getElem_cons_succ, List.setIfInBounds_toArray, List.set_cons_zero, List.set_cons_succ]
      refine wpAnyH_take (i := 5) (v := ?tv6) rfl (by kernel_rfl) (by kernel_rfl) (by kernel_rfl) (fun _ _ _ h => h) (Or.inl ⟨by rfl, ?ty6⟩) (by assumption) ?tr6
      case ty6 => (intro w hSw; (try dsimp only at hSw); go_simp; (try with_reducible rfl))
      try simp only [Act.put, List.getElem_toArray, List.getElem_cons_zero, List.getElem_cons_succ, List.setIfInBounds_toArray, List.set_cons_zero, List.set_cons_succ]
      refine wpAnyH_take (i := 6) (v := ?tv7) rfl (by kernel_rfl) (by kernel_rfl) (by kernel_rfl) (fun _ _ _ h => h) (Or.inl ⟨by rfl, ?ty7⟩) (by assumption) ?tr7
      case ty7 => (intro w hSw; (try dsimp only at hSw); go_simp; (try with_reducible rfl))
      try simp only [Act.put, List.getElem_toArray, List.getElem_cons_zero, List.getElem_cons_succ, List.setIfInBounds_toArray, List.set_cons_zero, List.set_cons_succ]
      refine wpAnyH_take (i := 7) (v := ?tv8) rfl (by kernel_rfl) (by kernel_rfl) (by kernel_rfl) (fun _ _ _ h => h) (Or.inl ⟨by rfl, ?ty8⟩) (by assumption) ?tr8
      case ty8 => (intro w hSw; (try dsimp only at hSw); go_simp; (try with_reducible rfl))
      try simp only [Act.put, List.getElem_toArray, List.getElem_cons_zero, List.getElem_cons_succ, List.setIfInBounds_toArray, List.set_cons_zero, List.set_cons_succ]
      refine wpAnyH_take (i := 8) (v := ?tv9) rfl (by kernel_rfl) (by kernel_rfl) (by kernel_rfl) (fun _ _ _ h => h) (Or.inl ⟨by rfl, ?ty9⟩) (by assumption) ?tr9
      case ty9 => (intro w hSw; (try dsimp only at hSw); go_simp; (try with_reducible rfl))
      try simp only [Act.put, List.getElem_toArray, List.getElem_cons_zero, List.getElem_cons_succ, List.setIfInBounds_toArray, List.set_cons_zero, List.set_cons_succ]
      refine wpAnyH_take (i := 9) (v := ?tv10) rfl (by kernel_rfl) (by kernel_rfl) (by kernel_rfl) (fun _ _ _ h => h) (Or.inl ⟨by rfl, ?ty10⟩) (by assumption) ?tr10
      case ty10 => (intro w hSw; (try dsimp only at hSw); have q8 := (K.out w hSw).1; have q9 := (K.out w hSw).2.1; have q6 := block_of_cell q8; have q7 := block_of_cell q9; go_simp; (try with_reducible rfl))
      try simp only [Act.put, List.getElem_toArray, List.getElem_cons_zero, List.getElem_cons_succ, List.setIfInBounds_toArray, List.set_cons_zero, List.set_cons_succ]
      refine wpAnyH_ready (rs := [10]) (by kernel_rfl) (by simp) ?_
      refine AllReadyH.cons (i := 10) rfl (fun K2 hK2 => ?_) AllReadyH.nil
      go_simp
      go_at_call 48
      refine (HS.out wr.drew ((K.out wr.drew (show Gr wr wr.drew from (by repeat (first | exact Gr.refl _ | (refine Gr.step ?_ (by assumption)) | (refine Gr.alloc ?_ _) | (refine Gr.drew ?_))))).2.2)).mono ?_
      rintro ev w101 ⟨rfl, b101⟩
      try go_wp2_with fail
      refine hK2.out _ _ (show Gr wr _ from (by repeat (first | exact Gr.refl _ | (refine Gr.step ?_ (by assumption)) | (refine Gr.alloc ?_ _) | (refine Gr.drew ?_)))) (fun hHeld2 => ?_)
      clear hK2 K2
      try simp only [Act.put, List.getElem_toArray, List.getElem_cons_zero, List.getElem_cons_succ, List.setIfInBounds_toArray, List.set_cons_zero, List.set_cons_succ]
      refine wpAnyH_take (i := 11) (v := ?tv11) rfl (by kernel_rfl) (by kernel_rfl) (by kernel_rfl) (fun _ _ _ h => h) (Or.inl ⟨by rfl, ?ty11⟩) (by assumption) ?tr11
      case ty11 => (intro w hSw; (try dsimp only at hSw); go_simp; (try with_reducible rfl))
      try simp only [Act.put, List.getElem_toArray, List.getElem_cons_zero, List.getElem_cons_succ, List.setIfInBounds_toArray, List.set_cons_zero, List.set_cons_succ]
      refine wpAnyH_done (by kernel_rfl) ?_ _
      go_wp2
      go_roundw
      case rel => exact ⟨k + 1, by omega, by go_num, Lib.hid ((K.out _ hHeld2).2.2)⟩
      case measure => simp [intOf]; omega
    · go_wp2
      go_ret
      exact ⟨rfl, HB.out⟩
end Go.Proofs.YtdodfeoaioolnaaDoor

/- cartularylaw15.alive answers true. Condition: the package-level variables read as listed. -/
namespace Go.Proofs.YtdodfeoaioolnaaDoor
open Go.ChangeShapes Go.WideShapes Go.ChangeAt Go.RowKit
set_option linter.unusedVariables false
/-- what the listed variables give: the errors, the tables -/
structure EnvP (B : Nat) (a : Nat → Addr) (w : World) : Prop where
  env : Env B a w
  tz : TzTab w
  ng : 19 ≤ B
theorem EnvP.laid {B : Nat} {a : Nat → Addr} {w : World} (h : EnvP B a w) : Laid B a w := h.env.laid
theorem EnvP.below {B : Nat} {a : Nat → Addr} {w w' : World} (h : EnvP B a w) (hb : Below B w w') : EnvP B a w' := ⟨h.env.below hb, h.tz.below hb h.ng, h.ng⟩
theorem EnvP.step {B : Nat} {a : Nat → Addr} {w w' : World} (h : EnvP B a w) (hb : Below w.heap.size w w') : EnvP B a w' := h.below (hb.mono h.laid.size)
theorem EnvP.lo {B : Nat} {a : Nat → Addr} {w : World} (h : EnvP B a w) : 19 ≤ w.heap.size := Nat.le_trans h.ng h.laid.size
def P7 : List (List (Nat × Nat)) := [[(0, 1)], [(1, 1)], [(1, 2), (0, 6)]]
theorem p7_eq : (pathL 64 0 0 7).map coverS = P7 := by decide +kernel
theorem p7_in : AllIn 300 P7 := by
  intro p hp c hc
  simp [P7] at hp
  rcases hp with rfl | rfl | rfl <;> simp at hc
  · subst hc; exact ⟨by decide, by decide⟩
  · subst hc; exact ⟨by decide, by decide⟩
  · rcases hc with rfl | rfl <;> exact ⟨by decide, by decide⟩
theorem p7_tiles : tilesF 300 P7.flatten [] = [(0, 0, 256)] := by decide +kernel
def oneB (k : UInt8) : List UInt8 := k :: List.replicate 31 0
theorem oneB_length (k : UInt8) : (oneB k).length = 32 := by simp [oneB]
set_option maxRecDepth 100000 in
set_option maxHeartbeats 8000000 in
theorem alive15 (a : Nat → Addr) (B : Nat) (w : World) (hE : EnvP B a w) : Calls Tryd.prog 13 #[] w fun ev w' => ev = .returned (.bool true) ∧ Below w.heap.size w w' := by
  have HE := Lib.hid hE
  have h23 := nodeH_length (oneB 2) (oneB 3)
  have h123 := nodeH_length (oneB 1) (nodeH (oneB 2) (oneB 3))
  obtain ⟨h1, e1⟩ : ∃ h, oneB 1 = h := ⟨_, rfl⟩
  have hf : foldR nodeH zeroH [oneB 1, oneB 2, oneB 3] = nodeH (oneB 1) (nodeH (oneB 2) (oneB 3)) := rfl
  obtain ⟨v2, ev2, Hv2, Zv2, Iv2, Ov2⟩ := row_of (nodeH (oneB 2) (oneB 3)) h23
  obtain ⟨vr, evr, Hvr, Zvr, Ivr, Ovr⟩ := row_of (nodeH (oneB 1) (nodeH (oneB 2) (oneB 3))) h123
  have c1 : hv (oneB 1) = .agg #[.int .u8 1, .int .u8 0, .int .u8 0, .int .u8 0, .int .u8 0, .int .u8 0, .int .u8 0, .int .u8 0, .int .u8 0, .int .u8 0, .int .u8 0, .int .u8 0, .int .u8 0, .int .u8 0, .int .u8 0, .int .u8 0, .int .u8 0, .int .u8 0, .int .u8 0, .int .u8 0, .int .u8 0, .int .u8 0, .int .u8 0, .int .u8 0, .int .u8 0, .int .u8 0, .int .u8 0, .int .u8 0, .int .u8 0, .int .u8 0, .int .u8 0, .int .u8 0] := by kernel_rfl
  have c2 : hv (oneB 2) = .agg #[.int .u8 2, .int .u8 0, .int .u8 0, .int .u8 0, .int .u8 0, .int .u8 0, .int .u8 0, .int .u8 0, .int .u8 0, .int .u8 0, .int .u8 0, .int .u8 0, .int .u8 0, .int .u8 0, .int .u8 0, .int .u8 0, .int .u8 0, .int .u8 0, .int .u8 0, .int .u8 0, .int .u8 0, .int .u8 0, .int .u8 0, .int .u8 0, .int .u8 0, .int .u8 0, .int .u8 0, .int .u8 0, .int .u8 0, .int .u8 0, .int .u8 0, .int .u8 0] := by kernel_rfl
  have c3 : hv (oneB 3) = .agg #[.int .u8 3, .int .u8 0, .int .u8 0, .int .u8 0, .int .u8 0, .int .u8 0, .int .u8 0, .int .u8 0, .int .u8 0, .int .u8 0, .int .u8 0, .int .u8 0, .int .u8 0, .int .u8 0, .int .u8 0, .int .u8 0, .int .u8 0, .int .u8 0, .int .u8 0, .int .u8 0, .int .u8 0, .int .u8 0, .int .u8 0, .int .u8 0, .int .u8 0, .int .u8 0, .int .u8 0, .int .u8 0, .int .u8 0, .int .u8 0, .int .u8 0, .int .u8 0] := by kernel_rfl
  have HN1 : Hid (∀ w, EnvP B a w → Calls Tryd.prog 30 #[.agg #[.int .u8 2, .int .u8 0, .int .u8 0, .int .u8 0, .int .u8 0, .int .u8 0, .int .u8 0, .int .u8 0, .int .u8 0, .int .u8 0, .int .u8 0, .int .u8 0, .int .u8 0, .int .u8 0, .int .u8 0, .int .u8 0, .int .u8 0, .int .u8 0, .int .u8 0, .int .u8 0, .int .u8 0, .int .u8 0, .int .u8 0, .int .u8 0, .int .u8 0, .int .u8 0, .int .u8 0, .int .u8 0, .int .u8 0, .int .u8 0, .int .u8 0, .int .u8 0], .agg #[.int .u8 3, .int .u8 0, .int .u8 0, .int .u8 0, .int .u8 0, .int .u8 0, .int .u8 0, .int .u8 0, .int .u8 0, .int .u8 0, .int .u8 0, .int .u8 0, .int .u8 0, .int .u8 0, .int .u8 0, .int .u8 0, .int .u8 0, .int .u8 0, .int .u8 0, .int .u8 0, .int .u8 0, .int .u8 0, .int .u8 0, .int .u8 0, .int .u8 0, .int .u8 0, .int .u8 0, .int .u8 0, .int .u8 0, .int .u8 0, .int .u8 0, .int .u8 0]] w fun ev w' => ev = .returned (.agg v2) ∧ Below w.heap.size w w') := Lib.hid (fun w h => by
    have := hnode_any (oneB 2) (oneB 3) w (oneB_length _) (oneB_length _) h.env.tab
    rw [ev2, c2, c3] at this; exact this)
  have HN2 : Hid (∀ w, EnvP B a w → Calls Tryd.prog 30 #[.agg #[.int .u8 1, .int .u8 0, .int .u8 0, .int .u8 0, .int .u8 0, .int .u8 0, .int .u8 0, .int .u8 0, .int .u8 0, .int .u8 0, .int .u8 0, .int .u8 0, .int .u8 0, .int .u8 0, .int .u8 0, .int .u8 0, .int .u8 0, .int .u8 0, .int .u8 0, .int .u8 0, .int .u8 0, .int .u8 0, .int .u8 0, .int .u8 0, .int .u8 0, .int .u8 0, .int .u8 0, .int .u8 0, .int .u8 0, .int .u8 0, .int .u8 0, .int .u8 0], .agg v2] w fun ev w' => ev = .returned (.agg vr) ∧ Below w.heap.size w w') := Lib.hid (fun w h => by
    have := hnode_any (oneB 1) (nodeH (oneB 2) (oneB 3)) w (oneB_length _) h23 h.env.tab
    rw [ev2, c1, evr] at this; exact this)
  have hqrr : ∀ w, (Op.equalIn 10000 26 (.agg vr) (.agg vr)).run Tryd.prog w = .ok true w := fun w => by rw [eq_hash _ _ h123 h123 vr vr evr evr w]; simp
  have HQ := Lib.hid hqrr
  have HFO : Hid (∀ w' A, KTab 18 w' → HIn w' A 3 3 [oneB 1, oneB 2, oneB 3] → Calls Tryd.prog 9 #[.slice A 3 3] w' fun ev w2 => ev = .returned (.tuple #[.agg vr, .nilIface]) ∧ Below w'.heap.size w' w2) := Lib.hid (fun w' A hk hI => by
    have := fold_ok [oneB 1, oneB 2, oneB 3] A 3 3 w' hk (by omega) hI (by simp)
    rw [hf, evr] at this; exact this)
  clear hE h23 h123 e1 hf ev2 evr c1 c2 c3 hqrr
  go_enter Tryd.func13, Tryd.ntmps13
  go_wp2_with fail
  refine (plan_path_ok 0 7 w HE.out.tz HE.out.lo (by omega) (by omega) (by omega)).mono ?_
  rintro ev w1 ⟨v1, vs1, rfl, o1, p1, n1, b1⟩
  rw [p7_eq] at o1 p1
  have RP1 : Hid (PRd w1 v1 P7) := Lib.hid (prd_hold o1 p1 rfl)
  clear o1 p1 n1
  go_wp2_with fail
  refine (tiles_ok 300 v1 P7 w1 RP1.out p7_in (by omega) (by decide) (by decide)).mono ?_
  rintro ev w2 ⟨v2', rfl, o2, b2⟩
  rw [p7_tiles] at o2
  have RT2 : Hid (Rd w2 v2' 3 1 (tileCells [(0, 0, 256)])) := Lib.hid (rd_own o2)
  clear o2
  have hI := hin_rows w2 [oneB 1, oneB 2, oneB 3] [#[.int .u8 1, .int .u8 0, .int .u8 0, .int .u8 0, .int .u8 0, .int .u8 0, .int .u8 0, .int .u8 0, .int .u8 0, .int .u8 0, .int .u8 0, .int .u8 0, .int .u8 0, .int .u8 0, .int .u8 0, .int .u8 0, .int .u8 0, .int .u8 0, .int .u8 0, .int .u8 0, .int .u8 0, .int .u8 0, .int .u8 0, .int .u8 0, .int .u8 0, .int .u8 0, .int .u8 0, .int .u8 0, .int .u8 0, .int .u8 0, .int .u8 0, .int .u8 0], #[.int .u8 2, .int .u8 0, .int .u8 0, .int .u8 0, .int .u8 0, .int .u8 0, .int .u8 0, .int .u8 0, .int .u8 0, .int .u8 0, .int .u8 0, .int .u8 0, .int .u8 0, .int .u8 0, .int .u8 0, .int .u8 0, .int .u8 0, .int .u8 0, .int .u8 0, .int .u8 0, .int .u8 0, .int .u8 0, .int .u8 0, .int .u8 0, .int .u8 0, .int .u8 0, .int .u8 0, .int .u8 0, .int .u8 0, .int .u8 0, .int .u8 0, .int .u8 0], #[.int .u8 3, .int .u8 0, .int .u8 0, .int .u8 0, .int .u8 0, .int .u8 0, .int .u8 0, .int .u8 0, .int .u8 0, .int .u8 0, .int .u8 0, .int .u8 0, .int .u8 0, .int .u8 0, .int .u8 0, .int .u8 0, .int .u8 0, .int .u8 0, .int .u8 0, .int .u8 0, .int .u8 0, .int .u8 0, .int .u8 0, .int .u8 0, .int .u8 0, .int .u8 0, .int .u8 0, .int .u8 0, .int .u8 0, .int .u8 0, .int .u8 0, .int .u8 0]] (by intro h hh; simp at hh; rcases hh with rfl | rfl | rfl <;> exact oneB_length _) (by kernel_rfl) 3 rfl (by omega)
  have bx : Below w2.heap.size w2 (w2.alloc (.cells ([#[.int .u8 1, .int .u8 0, .int .u8 0, .int .u8 0, .int .u8 0, .int .u8 0, .int .u8 0, .int .u8 0, .int .u8 0, .int .u8 0, .int .u8 0, .int .u8 0, .int .u8 0, .int .u8 0, .int .u8 0, .int .u8 0, .int .u8 0, .int .u8 0, .int .u8 0, .int .u8 0, .int .u8 0, .int .u8 0, .int .u8 0, .int .u8 0, .int .u8 0, .int .u8 0, .int .u8 0, .int .u8 0, .int .u8 0, .int .u8 0, .int .u8 0, .int .u8 0], #[.int .u8 2, .int .u8 0, .int .u8 0, .int .u8 0, .int .u8 0, .int .u8 0, .int .u8 0, .int .u8 0, .int .u8 0, .int .u8 0, .int .u8 0, .int .u8 0, .int .u8 0, .int .u8 0, .int .u8 0, .int .u8 0, .int .u8 0, .int .u8 0, .int .u8 0, .int .u8 0, .int .u8 0, .int .u8 0, .int .u8 0, .int .u8 0, .int .u8 0, .int .u8 0, .int .u8 0, .int .u8 0, .int .u8 0, .int .u8 0, .int .u8 0, .int .u8 0], #[.int .u8 3, .int .u8 0, .int .u8 0, .int .u8 0, .int .u8 0, .int .u8 0, .int .u8 0, .int .u8 0, .int .u8 0, .int .u8 0, .int .u8 0, .int .u8 0, .int .u8 0, .int .u8 0, .int .u8 0, .int .u8 0, .int .u8 0, .int .u8 0, .int .u8 0, .int .u8 0, .int .u8 0, .int .u8 0, .int .u8 0, .int .u8 0, .int .u8 0, .int .u8 0, .int .u8 0, .int .u8 0, .int .u8 0, .int .u8 0, .int .u8 0, .int .u8 0]].flatMap Array.toList).toArray 26)) := (Below.refl _ _).alloc (Nat.le_refl _) _
  obtain ⟨wx, hwx⟩ : ∃ x, w2.alloc (.cells ([#[.int .u8 1, .int .u8 0, .int .u8 0, .int .u8 0, .int .u8 0, .int .u8 0, .int .u8 0, .int .u8 0, .int .u8 0, .int .u8 0, .int .u8 0, .int .u8 0, .int .u8 0, .int .u8 0, .int .u8 0, .int .u8 0, .int .u8 0, .int .u8 0, .int .u8 0, .int .u8 0, .int .u8 0, .int .u8 0, .int .u8 0, .int .u8 0, .int .u8 0, .int .u8 0, .int .u8 0, .int .u8 0, .int .u8 0, .int .u8 0, .int .u8 0, .int .u8 0], #[.int .u8 2, .int .u8 0, .int .u8 0, .int .u8 0, .int .u8 0, .int .u8 0, .int .u8 0, .int .u8 0, .int .u8 0, .int .u8 0, .int .u8 0, .int .u8 0, .int .u8 0, .int .u8 0, .int .u8 0, .int .u8 0, .int .u8 0, .int .u8 0, .int .u8 0, .int .u8 0, .int .u8 0, .int .u8 0, .int .u8 0, .int .u8 0, .int .u8 0, .int .u8 0, .int .u8 0, .int .u8 0, .int .u8 0, .int .u8 0, .int .u8 0, .int .u8 0], #[.int .u8 3, .int .u8 0, .int .u8 0, .int .u8 0, .int .u8 0, .int .u8 0, .int .u8 0, .int .u8 0, .int .u8 0, .int .u8 0, .int .u8 0, .int .u8 0, .int .u8 0, .int .u8 0, .int .u8 0, .int .u8 0, .int .u8 0, .int .u8 0, .int .u8 0, .int .u8 0, .int .u8 0, .int .u8 0, .int .u8 0, .int .u8 0, .int .u8 0, .int .u8 0, .int .u8 0, .int .u8 0, .int .u8 0, .int .u8 0, .int .u8 0, .int .u8 0]].flatMap Array.toList).toArray 26) = x := ⟨_, rfl⟩
  rw [hwx] at hI bx
  have HWX := Lib.hid hwx
  have HI := Lib.hid hI
  clear hwx hI
  go_wp2_with (refine wpList_buildSlice_rows rfl 22 26 _ [#[.int .u8 1, .int .u8 0, .int .u8 0, .int .u8 0, .int .u8 0, .int .u8 0, .int .u8 0, .int .u8 0, .int .u8 0, .int .u8 0, .int .u8 0, .int .u8 0, .int .u8 0, .int .u8 0, .int .u8 0, .int .u8 0, .int .u8 0, .int .u8 0, .int .u8 0, .int .u8 0, .int .u8 0, .int .u8 0, .int .u8 0, .int .u8 0, .int .u8 0, .int .u8 0, .int .u8 0, .int .u8 0, .int .u8 0, .int .u8 0, .int .u8 0, .int .u8 0], #[.int .u8 2, .int .u8 0, .int .u8 0, .int .u8 0, .int .u8 0, .int .u8 0, .int .u8 0, .int .u8 0, .int .u8 0, .int .u8 0, .int .u8 0, .int .u8 0, .int .u8 0, .int .u8 0, .int .u8 0, .int .u8 0, .int .u8 0, .int .u8 0, .int .u8 0, .int .u8 0, .int .u8 0, .int .u8 0, .int .u8 0, .int .u8 0, .int .u8 0, .int .u8 0, .int .u8 0, .int .u8 0, .int .u8 0, .int .u8 0, .int .u8 0, .int .u8 0], #[.int .u8 3, .int .u8 0, .int .u8 0, .int .u8 0, .int .u8 0, .int .u8 0, .int .u8 0, .int .u8 0, .int .u8 0, .int .u8 0, .int .u8 0, .int .u8 0, .int .u8 0, .int .u8 0, .int .u8 0, .int .u8 0, .int .u8 0, .int .u8 0, .int .u8 0, .int .u8 0, .int .u8 0, .int .u8 0, .int .u8 0, .int .u8 0, .int .u8 0, .int .u8 0, .int .u8 0, .int .u8 0, .int .u8 0, .int .u8 0, .int .u8 0, .int .u8 0]] _ 32 3 rfl (by simp only [List.map_toArray, List.map_cons, List.map_nil]; rfl) Tryd.underlying22 Tryd.sizeOf26 Tryd.zeroValue26 rfl (by simp) (by omega) (by omega) ?_; rw [HWX.out])
  refine (HFO.out wx _ (show EnvP B a wx from HE.out.step (show Gr w wx from (by repeat (first | exact Gr.refl _ | (refine Gr.step ?_ (by assumption)) | (refine Gr.alloc ?_ _) | (refine Gr.drew ?_))))).env.tab HI.out).mono ?_
  rintro ev w3 ⟨rfl, b3⟩
  go_upto_region 4 with (refine wpList_store_row_any rfl 26 _ _ rfl w3.heap.size vr rfl rfl 26 _ (heap_at _ _ _ rfl) Ivr.out (by rw [Zvr.out]; rfl) Ovr.out ?_; intro w4 hbN hgN hsN; have b4 : Below w3.heap.size w3 w4 := ((Below.refl _ w3).alloc (Nat.le_refl _) _).trans (hbN.to_below (by simp) (fun k hk q => by omega)); have R4 := Lib.hid hgN; clear hbN hgN hsN)
  go_wp2_with fail
  refine (plan_proof_fail a B 0 3 w4 (show EnvP B a w4 from HE.out.step (show Gr w w4 from (by repeat (first | exact Gr.refl _ | (refine Gr.step ?_ (by assumption)) | (refine Gr.alloc ?_ _) | (refine Gr.drew ?_))))).laid (by omega) (by omega) (by omega) (by omega) (.inr (.inl rfl))).mono ?_
  rintro ev w5 ⟨rfl, b5⟩
  unfold errV
  go_upto_region 6 with fail
  obtain ⟨wz, hwz⟩ : ∃ x, (((w5.alloc (.cells #[.int .u8 0, .int .u64 1] 80)).alloc (.cells #[.int .u8 1, .int .u64 1] 80)).alloc (.cells #[.int .u8 1, .int .u64 2, .int .u8 0, .int .u64 6] 80)).alloc (.cells #[.slice (some ⟨w5.heap.size, 0, none⟩) 1 1, .slice (some ⟨w5.heap.size + 1, 0, none⟩) 1 1, .slice (some ⟨w5.heap.size + 1 + 1, 0, none⟩) 2 2] 58) = x := ⟨_, rfl⟩
  have bz : Below w5.heap.size w5 wz := by rw [← hwz]; exact ((((Below.refl _ _).alloc (Nat.le_refl _) _).alloc (by simp) _).alloc (by simp; omega) _).alloc (by simp; omega) _
  have RP2 : Hid (PRd wz (.slice (some ⟨w5.heap.size + 1 + 1 + 1, 0, none⟩) 3 3) P7) := Lib.hid (by
    rw [← hwz]
    refine ⟨[.slice (some ⟨w5.heap.size, 0, none⟩) 1 1, .slice (some ⟨w5.heap.size + 1, 0, none⟩) 1 1, .slice (some ⟨w5.heap.size + 1 + 1, 0, none⟩) 2 2], ?_, ?_⟩
    · have := rd_new (w := ((w5.alloc (.cells #[.int .u8 0, .int .u64 1] 80)).alloc (.cells #[.int .u8 1, .int .u64 1] 80)).alloc (.cells #[.int .u8 1, .int .u64 2, .int .u8 0, .int .u64 6] 80)) #[.slice (some ⟨w5.heap.size, 0, none⟩) 1 1, .slice (some ⟨w5.heap.size + 1, 0, none⟩) 1 1, .slice (some ⟨w5.heap.size + 1 + 1, 0, none⟩) 2 2] 58 3 1 3 rfl
      rw [show P7.length = 3 from rfl]
      simpa using this
    · intro i p hp
      match i, hp with
      | 0, hp => cases hp; exact ⟨_, rfl, by
          have := rd_new (w := w5) #[.int .u8 0, .int .u64 1] 80 1 2 1 rfl
          exact ((this.alloc _).alloc _).alloc _⟩
      | 1, hp => cases hp; exact ⟨_, rfl, by
          have := rd_new (w := w5.alloc (.cells #[.int .u8 0, .int .u64 1] 80)) #[.int .u8 1, .int .u64 1] 80 1 2 1 rfl
          simp only [World.size_alloc] at this
          exact (this.alloc _).alloc _⟩
      | 2, hp => cases hp; exact ⟨_, rfl, by
          have := rd_new (w := (w5.alloc (.cells #[.int .u8 0, .int .u64 1] 80)).alloc (.cells #[.int .u8 1, .int .u64 1] 80)) #[.int .u8 1, .int .u64 2, .int .u8 0, .int .u64 6] 80 2 2 2 rfl
          simp only [World.size_alloc] at this
          exact this.alloc _⟩
      | i + 3, hp => simp [P7] at hp)
  rw [hwz]
  clear hwz
  have KR : Hid (∀ w', Gr wz w' → w'.heap[w3.heap.size]? = some (.cells vr 26 (0, 0))) := Lib.hid (fun w' h => by
    have hl := (Array.getElem?_eq_some_iff.1 R4.out).1
    have hb := (b5.trans (bz.mono b5.size)).trans (Below.mono h (Nat.le_trans b5.size bz.size))
    exact (hb.block _ hl).trans R4.out)
  have hqrr := HQ.out
  refine wp_region_held_drew (S := Gr wz) (by kernel_rfl) ((Gr.refl _).drew) (fun hHeld => ?_)
  refine wpAnyH_take (i := 0) (v := ?tv1) rfl (by kernel_rfl) (by kernel_rfl) (by kernel_rfl) (fun _ _ _ h => h) (Or.inl ⟨by rfl, ?ty1⟩) (by assumption) ?tr1
  case ty1 => (intro w hSw; (try dsimp only at hSw); go_simp; (try with_reducible rfl))
  try simp only [Act.put, List.getElem_toArray, List.getElem_cons_zero, List.setIfInBounds_toArray, List.set_cons_zero, List.set_cons_succ]
  refine wpAnyH_take (i := 1) (v := ?tv2) rfl (by kernel_rfl) (by kernel_rfl) (by kernel_rfl) (fun _ _ _ h => h) (Or.inl ⟨by rfl, ?ty2⟩) (by assumption) ?tr2
  case ty2 => (intro w hSw; (try dsimp only at hSw); go_simp; (try with_reducible rfl))
  try simp only [Act.put, List.getElem_toArray, List.getElem_cons_zero, List.getElem_cons_succ, List.setIfInBounds_toArray, List.set_cons_zero, List.set_cons_succ]
  refine wpAnyH_take (i := 2) (v := ?tv3) rfl (by kernel_rfl) (by kernel_rfl) (by kernel_rfl) (fun _ _ _ h => h) (Or.inl ⟨by rfl, ?ty3⟩) (by assumption) ?tr3
  case ty3 => (intro w hSw; (try dsimp only at hSw); go_simp; (try with_reducible rfl))
  try simp only [Act.put, List.getElem_toArray, List.getElem_cons_zero, List.getElem_cons_succ, List.setIfInBounds_toArray, List.set_cons_zero, List.set_cons_succ]
  refine wpAnyH_take (i := 3) (v := ?tv4) rfl (by kernel_rfl) (by kernel_rfl) (by kernel_rfl) (fun _ _ _ h => h) (Or.inl ⟨by rfl, ?ty4⟩) (by assumption) ?tr4
  case ty4 => (intro w hSw; (try dsimp only at hSw); go_simp; (try with_reducible rfl))
  try simp only [Act.put, List.getElem_toArray, List.getElem_cons_zero, List.getElem_cons_succ, List.setIfInBounds_toArray, List.set_cons_zero, List.set_cons_succ]
  refine wpAnyH_take (i := 4) (v := ?tv5) rfl (by kernel_rfl) (by kernel_rfl) (by kernel_rfl) (fun _ _ _ h => h) (Or.inl ⟨by rfl, ?ty5⟩) (by assumption) ?tr5
  case ty5 => (intro w hSw; (try dsimp only at hSw); go_simp; (try with_reducible rfl))
  try simp only [Act.put, List.getElem_toArray, List.getElem_cons_zero, List.getElem_cons_succ, List.setIfInBounds_toArray, List.set_cons_zero, List.set_cons_succ]
  refine wpAnyH_ready (rs := [5]) (by kernel_rfl) (by simp) ?_
  refine AllReadyH.cons (i := 5) rfl (fun K2 hK2 => ?_) AllReadyH.nil
  go_simp
  go_at_call 38
  refine (same_parts P7 _ _ wz.drew (by decide) (by decide) (RP1.out.below (show Gr w1 wz.drew from (by repeat (first | exact Gr.refl _ | (refine Gr.step ?_ (by assumption)) | (refine Gr.alloc ?_ _) | (refine Gr.drew ?_))))) (RP2.out.below (show Gr wz wz.drew from (by repeat (first | exact Gr.refl _ | (refine Gr.step ?_ (by assumption)) | (refine Gr.alloc ?_ _) | (refine Gr.drew ?_)))))).mono ?_
  rintro ev w101 ⟨rfl, b101⟩
  try go_wp2_with fail
  refine hK2.out _ _ (show Gr wz _ from (by repeat (first | exact Gr.refl _ | (refine Gr.step ?_ (by assumption)) | (refine Gr.alloc ?_ _) | (refine Gr.drew ?_)))) (fun hHeld2 => ?_)
  clear hK2 K2
  try simp only [Act.put, List.getElem_toArray, List.getElem_cons_zero, List.getElem_cons_succ, List.setIfInBounds_toArray, List.set_cons_zero, List.set_cons_succ]
  refine wpAnyH_take (i := 6) (v := ?tv6) rfl (by kernel_rfl) (by kernel_rfl) (by kernel_rfl) (fun _ _ _ h => h) (Or.inl ⟨by rfl, ?ty6⟩) (by assumption) ?tr6
  case ty6 => (intro w hSw; (try dsimp only at hSw); go_simp; (try with_reducible rfl))
  try simp only [Act.put, List.getElem_toArray, List.getElem_cons_zero, List.getElem_cons_succ, List.setIfInBounds_toArray, List.set_cons_zero, List.set_cons_succ]
  refine wpAnyH_take (i := 7) (v := ?tv7) rfl (by kernel_rfl) (by kernel_rfl) (by kernel_rfl) (fun _ _ _ h => h) (Or.inl ⟨by rfl, ?ty7⟩) (by assumption) ?tr7
  case ty7 => (intro w hSw; (try dsimp only at hSw); go_simp; (try with_reducible rfl))
  try simp only [Act.put, List.getElem_toArray, List.getElem_cons_zero, List.getElem_cons_succ, List.setIfInBounds_toArray, List.set_cons_zero, List.set_cons_succ]
  refine wpAnyH_take (i := 8) (v := ?tv8) rfl (by kernel_rfl) (by kernel_rfl) (by kernel_rfl) (fun _ _ _ h => h) (Or.inl ⟨by rfl, ?ty8⟩) (by assumption) ?tr8
  case ty8 => (intro w hSw; (try dsimp only at hSw); go_simp; (try with_reducible rfl))
  try simp only [Act.put, List.getElem_toArray, List.getElem_cons_zero, List.getElem_cons_succ, List.setIfInBounds_toArray, List.set_cons_zero, List.set_cons_succ]
  refine wpAnyH_take (i := 9) (v := ?tv9) rfl (by kernel_rfl) (by kernel_rfl) (by kernel_rfl) (fun _ _ _ h => h) (Or.inl ⟨by rfl, ?ty9⟩) (by assumption) ?tr9
  case ty9 => (intro w hSw; (try dsimp only at hSw); go_simp; (try with_reducible rfl))
  try simp only [Act.put, List.getElem_toArray, List.getElem_cons_zero, List.getElem_cons_succ, List.setIfInBounds_toArray, List.set_cons_zero, List.set_cons_succ]
  refine wpAnyH_take (i := 10) (v := ?tv10) rfl (by kernel_rfl) (by kernel_rfl) (by kernel_rfl) (fun _ _ _ h => h) (Or.inl ⟨by rfl, ?ty10⟩) (by assumption) ?tr10
  case ty10 => (intro w hSw; (try dsimp only at hSw); go_simp; (try with_reducible rfl))
  try simp only [Act.put, List.getElem_toArray, List.getElem_cons_zero, List.getElem_cons_succ, List.setIfInBounds_toArray, List.set_cons_zero, List.set_cons_succ]
  refine wpAnyH_take (i := 11) (v := ?tv11) rfl (by kernel_rfl) (by kernel_rfl) (by kernel_rfl) (fun _ _ _ h => h) (Or.inl ⟨by rfl, ?ty11⟩) (by assumption) ?tr11
  case ty11 => (intro w hSw; (try dsimp only at hSw); go_simp; (try with_reducible rfl))
  try simp only [Act.put, List.getElem_toArray, List.getElem_cons_zero, List.getElem_cons_succ, List.setIfInBounds_toArray, List.set_cons_zero, List.set_cons_succ]
  refine wpAnyH_take (i := 12) (v := ?tv12) rfl (by kernel_rfl) (by kernel_rfl) (by kernel_rfl) (fun _ _ _ h => h) (Or.inl ⟨by rfl, ?ty12⟩) (by assumption) ?tr12
  case ty12 => (intro w hSw; (try dsimp only at hSw); go_simp; (try with_reducible rfl))
  try simp only [Act.put, List.getElem_toArray, List.getElem_cons_zero, List.getElem_cons_succ, List.setIfInBounds_toArray, List.set_cons_zero, List.set_cons_succ]
  refine wpAnyH_take (i := 13) (v := ?tv13) rfl (by kernel_rfl) (by kernel_rfl) (by kernel_rfl) (fun _ _ _ h => h) (Or.inl ⟨by rfl, ?ty13⟩) (by assumption) ?tr13
  case ty13 => (intro w hSw; (try dsimp only at hSw); go_simp; (try with_reducible rfl))
  try simp only [Act.put, List.getElem_toArray, List.getElem_cons_zero, List.getElem_cons_succ, List.setIfInBounds_toArray, List.set_cons_zero, List.set_cons_succ]
  refine wpAnyH_ready (rs := [14]) (by kernel_rfl) (by simp) ?_
  refine AllReadyH.cons (i := 14) rfl (fun K2 hK2 => ?_) AllReadyH.nil
  go_simp
  refine hK2.out _ _ (show Gr wz _ from (by repeat (first | exact Gr.refl _ | (refine Gr.step ?_ (by assumption)) | (refine Gr.alloc ?_ _) | (refine Gr.drew ?_)))) (fun hHeld2 => ?_)
  clear hK2 K2
  try simp only [Act.put, List.getElem_toArray, List.getElem_cons_zero, List.getElem_cons_succ, List.setIfInBounds_toArray, List.set_cons_zero, List.set_cons_succ]
  refine wpAnyH_ready (rs := [15]) (by kernel_rfl) (by simp) ?_
  refine AllReadyH.cons (i := 15) rfl (fun K2 hK2 => ?_) AllReadyH.nil
  go_simp
  go_at_call 39
  refine (same_tiles [(0, 0, 256)] _ _ (w101.alloc (.cells #[.int .u8 0, .int .u64 0, .int .i64 256] 84)) (by decide) (RT2.out.below (show Gr w2 (w101.alloc (.cells #[.int .u8 0, .int .u64 0, .int .i64 256] 84)) from (by repeat (first | exact Gr.refl _ | (refine Gr.step ?_ (by assumption)) | (refine Gr.alloc ?_ _) | (refine Gr.drew ?_))))) (rd_new (w := w101) #[.int .u8 0, .int .u64 0, .int .i64 256] 84 1 3 1 rfl)).mono ?_
  rintro ev w102 ⟨rfl, b102⟩
  try go_wp2_with fail
  refine hK2.out _ _ (show Gr wz _ from (by repeat (first | exact Gr.refl _ | (refine Gr.step ?_ (by assumption)) | (refine Gr.alloc ?_ _) | (refine Gr.drew ?_)))) (fun hHeld2 => ?_)
  clear hK2 K2
  try simp only [Act.put, List.getElem_toArray, List.getElem_cons_zero, List.getElem_cons_succ, List.setIfInBounds_toArray, List.set_cons_zero, List.set_cons_succ]
  refine wpAnyH_take (i := 16) (v := ?tv14) rfl (by kernel_rfl) (by kernel_rfl) (by kernel_rfl) (fun _ _ _ h => h) (Or.inl ⟨by rfl, ?ty14⟩) (by assumption) ?tr14
  case ty14 => (intro w hSw; (try dsimp only at hSw); go_simp; (try with_reducible rfl))
  try simp only [Act.put, List.getElem_toArray, List.getElem_cons_zero, List.getElem_cons_succ, List.setIfInBounds_toArray, List.set_cons_zero, List.set_cons_succ]
  refine wpAnyH_take (i := 17) (v := ?tv15) rfl (by kernel_rfl) (by kernel_rfl) (by kernel_rfl) (fun _ _ _ h => h) (Or.inl ⟨by rfl, ?ty15⟩) (by assumption) ?tr15
  case ty15 => (intro w hSw; (try dsimp only at hSw); go_simp; (try with_reducible rfl))
  try simp only [Act.put, List.getElem_toArray, List.getElem_cons_zero, List.getElem_cons_succ, List.setIfInBounds_toArray, List.set_cons_zero, List.set_cons_succ]
  refine wpAnyH_take (i := 18) (v := ?tv16) rfl (by kernel_rfl) (by kernel_rfl) (by kernel_rfl) (fun _ _ _ h => h) (Or.inl ⟨by rfl, ?ty16⟩) (by assumption) ?tr16
  case ty16 => (intro w hSw; (try dsimp only at hSw); go_simp; (try with_reducible rfl))
  try simp only [Act.put, List.getElem_toArray, List.getElem_cons_zero, List.getElem_cons_succ, List.setIfInBounds_toArray, List.set_cons_zero, List.set_cons_succ]
  refine wpAnyH_take (i := 19) (v := ?tv17) rfl (by kernel_rfl) (by kernel_rfl) (by kernel_rfl) (fun _ _ _ h => h) (Or.inl ⟨by rfl, ?ty17⟩) (by assumption) ?tr17
  case ty17 => (intro w hSw; (try dsimp only at hSw); go_simp; (try with_reducible rfl))
  try simp only [Act.put, List.getElem_toArray, List.getElem_cons_zero, List.getElem_cons_succ, List.setIfInBounds_toArray, List.set_cons_zero, List.set_cons_succ]
  refine wpAnyH_take (i := 20) (v := ?tv18) rfl (by kernel_rfl) (by kernel_rfl) (by kernel_rfl) (fun _ _ _ h => h) (Or.inl ⟨by rfl, ?ty18⟩) (by assumption) ?tr18
  case ty18 => (intro w hSw; (try dsimp only at hSw); go_simp; (try with_reducible rfl))
  try simp only [Act.put, List.getElem_toArray, List.getElem_cons_zero, List.getElem_cons_succ, List.setIfInBounds_toArray, List.set_cons_zero, List.set_cons_succ]
  refine wpAnyH_take (i := 21) (v := ?tv19) rfl (by kernel_rfl) (by kernel_rfl) (by kernel_rfl) (fun _ _ _ h => h) (Or.inl ⟨by rfl, ?ty19⟩) (by assumption) ?tr19
  case ty19 => (intro w hSw; (try dsimp only at hSw); go_simp; (try with_reducible rfl))
  try simp only [Act.put, List.getElem_toArray, List.getElem_cons_zero, List.getElem_cons_succ, List.setIfInBounds_toArray, List.set_cons_zero, List.set_cons_succ]
  refine wpAnyH_take (i := 22) (v := _) rfl (by kernel_rfl) (by kernel_rfl) (by kernel_rfl) (fun _ _ _ h => h) (yieldsIf_load_row (by rfl) 26 _ (by rfl) _ (by rfl) 26 vr (0, 0) _ (fun w h => KR.out w h) Tryd.underlying26 rfl Ivr.out) (by assumption) ?_
  try simp only [Act.put, List.getElem_toArray, List.getElem_cons_zero, List.getElem_cons_succ, List.setIfInBounds_toArray, List.set_cons_zero, List.set_cons_succ]
  refine wpAnyH_take (i := 23) (v := ?tv21) rfl (by kernel_rfl) (by kernel_rfl) (by kernel_rfl) (fun _ _ _ h => h) (Or.inl ⟨by rfl, ?ty21⟩) (by assumption) ?tr21
  case ty21 => (intro w hSw; (try dsimp only at hSw); go_simp; (try with_reducible rfl))
  try simp only [Act.put, List.getElem_toArray, List.getElem_cons_zero, List.getElem_cons_succ, List.setIfInBounds_toArray, List.set_cons_zero, List.set_cons_succ]
  refine wpAnyH_take (i := 24) (v := ?tv22) rfl (by kernel_rfl) (by kernel_rfl) (by kernel_rfl) (fun _ _ _ h => h) (Or.inl ⟨by rfl, ?ty22⟩) (by assumption) ?tr22
  case ty22 => (intro w hSw; (try dsimp only at hSw); go_simp; (try with_reducible rfl))
  try simp only [Act.put, List.getElem_toArray, List.getElem_cons_zero, List.getElem_cons_succ, List.setIfInBounds_toArray, List.set_cons_zero, List.set_cons_succ]
  refine wpAnyH_take (i := 25) (v := ?tv23) rfl (by kernel_rfl) (by kernel_rfl) (by kernel_rfl) (fun _ _ _ h => h) (Or.inl ⟨by rfl, ?ty23⟩) (by assumption) ?tr23
  case ty23 => (intro w hSw; (try dsimp only at hSw); go_simp; (try with_reducible rfl))
  try simp only [Act.put, List.getElem_toArray, List.getElem_cons_zero, List.getElem_cons_succ, List.setIfInBounds_toArray, List.set_cons_zero, List.set_cons_succ]
  refine wpAnyH_ready (rs := [26]) (by kernel_rfl) (by simp) ?_
  refine AllReadyH.cons (i := 26) rfl (fun K2 hK2 => ?_) AllReadyH.nil
  go_simp
  go_at_call 30
  refine (HN1.out w102 (show EnvP B a w102 from HE.out.step (show Gr w w102 from (by repeat (first | exact Gr.refl _ | (refine Gr.step ?_ (by assumption)) | (refine Gr.alloc ?_ _) | (refine Gr.drew ?_)))))).mono ?_
  rintro ev w103 ⟨rfl, b103⟩
  try go_wp2_with fail
  refine hK2.out _ _ (show Gr wz _ from (by repeat (first | exact Gr.refl _ | (refine Gr.step ?_ (by assumption)) | (refine Gr.alloc ?_ _) | (refine Gr.drew ?_)))) (fun hHeld2 => ?_)
  clear hK2 K2
  try simp only [Act.put, List.getElem_toArray, List.getElem_cons_zero, List.getElem_cons_succ, List.setIfInBounds_toArray, List.set_cons_zero, List.set_cons_succ]
  refine wpAnyH_ready (rs := [27]) (by kernel_rfl) (by simp) ?_
  refine AllReadyH.cons (i := 27) rfl (fun K2 hK2 => ?_) AllReadyH.nil
  go_simp
  go_at_call 30
  refine (HN2.out w103 (show EnvP B a w103 from HE.out.step (show Gr w w103 from (by repeat (first | exact Gr.refl _ | (refine Gr.step ?_ (by assumption)) | (refine Gr.alloc ?_ _) | (refine Gr.drew ?_)))))).mono ?_
  rintro ev w104 ⟨rfl, b104⟩
  try go_wp2_with fail
  refine hK2.out _ _ (show Gr wz _ from (by repeat (first | exact Gr.refl _ | (refine Gr.step ?_ (by assumption)) | (refine Gr.alloc ?_ _) | (refine Gr.drew ?_)))) (fun hHeld2 => ?_)
  clear hK2 K2
  try simp only [Act.put, List.getElem_toArray, List.getElem_cons_zero, List.getElem_cons_succ, List.setIfInBounds_toArray, List.set_cons_zero, List.set_cons_succ]
  refine wpAnyH_take (i := 28) (v := ?tv24) rfl (by kernel_rfl) (by kernel_rfl) (by kernel_rfl) (fun _ _ _ h => h) (Or.inl ⟨by rfl, ?ty24⟩) (by assumption) ?tr24
  case ty24 => (intro w hSw; (try dsimp only at hSw); go_simp; (try with_reducible rfl))
  try simp only [Act.put, List.getElem_toArray, List.getElem_cons_zero, List.getElem_cons_succ, List.setIfInBounds_toArray, List.set_cons_zero, List.set_cons_succ]
  refine wpAnyH_take (i := 29) (v := ?tv25) rfl (by kernel_rfl) (by kernel_rfl) (by kernel_rfl) (fun _ _ _ h => h) (Or.inl ⟨by rfl, ?ty25⟩) (by assumption) ?tr25
  case ty25 => (intro w hSw; (try dsimp only at hSw); go_simp; (try with_reducible rfl))
  try simp only [Act.put, List.getElem_toArray, List.getElem_cons_zero, List.getElem_cons_succ, List.setIfInBounds_toArray, List.set_cons_zero, List.set_cons_succ]
  refine wpAnyH_take (i := 30) (v := ?tv26) rfl (by kernel_rfl) (by kernel_rfl) (by kernel_rfl) (fun _ _ _ h => h) (Or.inl ⟨by rfl, ?ty26⟩) (by assumption) ?tr26
  case ty26 => (intro w hSw; (try dsimp only at hSw); go_simp; (try with_reducible rfl))
  try simp only [Act.put, List.getElem_toArray, List.getElem_cons_zero, List.getElem_cons_succ, List.setIfInBounds_toArray, List.set_cons_zero, List.set_cons_succ]
  refine wpAnyH_take (i := 31) (v := ?tv27) rfl (by kernel_rfl) (by kernel_rfl) (by kernel_rfl) (fun _ _ _ h => h) (Or.inl ⟨by rfl, ?ty27⟩) (by assumption) ?tr27
  case ty27 => (intro w hSw; (try dsimp only at hSw); go_simp; (try with_reducible rfl))
  try simp only [Act.put, List.getElem_toArray, List.getElem_cons_zero, List.getElem_cons_succ, List.setIfInBounds_toArray, List.set_cons_zero, List.set_cons_succ]
  refine wpAnyH_ready (rs := [32]) (by kernel_rfl) (by simp) ?_
  refine AllReadyH.cons (i := 32) rfl (fun K2 hK2 => ?_) AllReadyH.nil
  go_simp
  go_at_call 33
  refine (is_sent a B 5 w104 (show EnvP B a w104 from HE.out.step (show Gr w w104 from (by repeat (first | exact Gr.refl _ | (refine Gr.step ?_ (by assumption)) | (refine Gr.alloc ?_ _) | (refine Gr.drew ?_))))).laid (by omega) (by omega)).mono ?_
  rintro ev w105 ⟨rfl, b105⟩
  try go_wp2_with fail
  refine hK2.out _ _ (show Gr wz _ from (by repeat (first | exact Gr.refl _ | (refine Gr.step ?_ (by assumption)) | (refine Gr.alloc ?_ _) | (refine Gr.drew ?_)))) (fun hHeld2 => ?_)
  clear hK2 K2
  try simp only [Act.put, List.getElem_toArray, List.getElem_cons_zero, List.getElem_cons_succ, List.setIfInBounds_toArray, List.set_cons_zero, List.set_cons_succ]
  refine wpAnyH_take (i := 33) (v := ?tv28) rfl (by kernel_rfl) (by kernel_rfl) (by kernel_rfl) (fun _ _ _ h => h) (Or.inl ⟨by rfl, ?ty28⟩) (by assumption) ?tr28
  case ty28 => (intro w hSw; (try dsimp only at hSw); go_simp; (try with_reducible rfl))
  try simp only [Act.put, List.getElem_toArray, List.getElem_cons_zero, List.getElem_cons_succ, List.setIfInBounds_toArray, List.set_cons_zero, List.set_cons_succ]
  refine wpAnyH_take (i := 34) (v := ?tv29) rfl (by kernel_rfl) (by kernel_rfl) (by kernel_rfl) (fun _ _ _ h => h) (Or.inl ⟨by rfl, ?ty29⟩) (by assumption) ?tr29
  case ty29 => (intro w hSw; (try dsimp only at hSw); go_simp; (try with_reducible rfl))
  try simp only [Act.put, List.getElem_toArray, List.getElem_cons_zero, List.getElem_cons_succ, List.setIfInBounds_toArray, List.set_cons_zero]
  refine wpAnyH_done (by kernel_rfl) ?_ _
  go_wp2
  go_ret
  exact ⟨rfl, show Gr w _ from (by repeat (first | exact Gr.refl _ | (refine Gr.step ?_ (by assumption)) | (refine Gr.alloc ?_ _) | (refine Gr.drew ?_)))⟩
end Go.Proofs.YtdodfeoaioolnaaDoor

