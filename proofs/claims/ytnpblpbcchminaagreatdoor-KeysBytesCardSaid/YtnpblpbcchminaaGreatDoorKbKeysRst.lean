import Derived.Test.YtnpblpbcchminaaGreatDoorKbKeysRvar
/- slices.Repeat of one zero hash, 67 times. Condition: the table reads as listed. -/
namespace Go.Proofs.YtnpblpbcchminaaGreatDoor
open Go.ChangeShapes Go.WideShapes Go.ChangeAt Go.RowKit
set_option linter.unusedVariables false
theorem wp_copy_mid {P : Program} {o : Oper} {a : Act} {w : World} {K : Act → World → Prop} {Q : Exit → Act → World → Prop} (d x : Operand) (dT sT : TypeId) (hop : o.op = Op.call { callee := Callee.builtin Builtin.copy, args := #[d, x], argTypes := #[dT, sT] })
    (elem : TypeId) (size : Nat) (hu : P.underlying dT = some (.slice elem)) (hs : (P.info? elem).map (·.size) = some size) (g og dLen dCap : Nat) (hd : a.eval d = .slice (some ⟨g, og, none⟩) dLen dCap) (sg so sLen sCap : Nat) (hx : a.eval x = .slice (some ⟨sg, so, none⟩) sLen sCap)
    (cs : List Value) (hl : cs.length = size * Nat.min sLen dLen) (hsrc : w.rangeAt sg so cs) (hth : w.there g og cs.length) (h1 : ∀ v ∈ cs, v.oneCell' = true)
    (hK : K (a.put o.dst (goInt (Nat.min sLen dLen))) (w.setCells g og cs)) : Oper.wp P o a w K Q := by
  have hl1 := run_loadCells_list (P := P) w ⟨sg, so, none⟩ cs (fun j v hv => by rw [Addr.add_mid]; exact hsrc j v hv)
  have hst := run_storeCells_cells (P := P) g og cs 0 w (fun j hj => (hth j hj).1) (fun j hj => (hth j hj).2) h1
  have hrun : (Builtin.copy_ #[dT, sT] o.type #[.slice (some ⟨g, og, none⟩) dLen dCap, .slice (some ⟨sg, so, none⟩) sLen sCap]).run P w = .ok (goInt (Nat.min sLen dLen)) (w.setCells g og cs) := by
    cases hq : P.info? elem with
    | none => simp [hq] at hs
    | some i =>
      have hi : i.size = size := by simpa [hq] using hs
      rw [Nat.mul_comm] at hl
      simp [Builtin.copy_, run_underlying hu, Builtin.lenOf, Builtin.firstCells, sizeOf, typeInfo, hq, hi, ← hl, hl1, hst]
  unfold Oper.wp
  simp [execOp, hop, resolve, invoke, builtin, hd, hx, hrun, Result.andThen]
  exact hK
theorem wpList_copy_mid {P : Program} {ops : Array Oper} {rest : List Oper} {o : Oper} {a : Act} {w : World} {Q : Exit → Act → World → Prop} (hgd : o.guard = none) (d x : Operand) (dT sT : TypeId) (hop : o.op = Op.call { callee := Callee.builtin Builtin.copy, args := #[d, x], argTypes := #[dT, sT] })
    (elem : TypeId) (size : Nat) (hu : P.underlying dT = some (.slice elem)) (hs : (P.info? elem).map (·.size) = some size) (g og dLen dCap : Nat) (hd : a.eval d = .slice (some ⟨g, og, none⟩) dLen dCap) (sg so sLen sCap : Nat) (hx : a.eval x = .slice (some ⟨sg, so, none⟩) sLen sCap)
    (cs : List Value) (hl : cs.length = size * Nat.min sLen dLen) (hsrc : w.rangeAt sg so cs) (hth : w.there g og cs.length) (h1 : ∀ v ∈ cs, v.oneCell' = true)
    (h : wpList P ops Q rest (a.put o.dst (goInt (Nat.min sLen dLen))) (w.setCells g og cs)) : wpList P ops Q (o :: rest) a w :=
  wpList_plain hgd fun _ hK => wp_copy_mid d x dT sT hop elem size hu hs g og dLen dCap hd sg so sLen sCap hx cs hl hsrc hth h1 (hK _ _ h)
theorem range_all {w : World} {g t : Nat} {cs : Array Value} (hg : w.heap[g]? = some (.cells cs t (0, 0))) : w.rangeAt g 0 cs.toList := fun j v hj => by
  rw [Nat.zero_add, cell_of_row w g j _ t (0, 0) hg]
  rwa [Array.getElem?_toList] at hj
theorem range_cells {w : World} {g t : Nat} {cs : List Value} (hg : w.heap[g]? = some (.cells cs.toArray t (0, 0))) (k : Nat) : w.rangeAt g 0 (cs.take k) := fun j v hj => by
  rw [Nat.zero_add, cell_of_row w g j _ t (0, 0) hg, List.getElem?_toArray]
  rw [List.getElem?_take] at hj
  by_cases h : j < k
  · rwa [if_pos h] at hj
  · rw [if_neg h] at hj; cases hj
theorem mem_setAll : ∀ (ys cs : List Value) (p : Nat) (v : Value), v ∈ setAll cs p ys → v ∈ cs ∨ v ∈ ys
  | [], cs, p, v, h => .inl h
  | y :: ys, cs, p, v, h => by
    rcases mem_setAll ys _ _ v h with q | q
    · rcases List.mem_or_eq_of_mem_set q with q | q
      · exact .inl q
      · exact .inr (by rw [q]; simp)
    · exact .inr (by simp [q])
theorem zl_cells : (#[.int .u8 0, .int .u8 0, .int .u8 0, .int .u8 0, .int .u8 0, .int .u8 0, .int .u8 0, .int .u8 0, .int .u8 0, .int .u8 0, .int .u8 0, .int .u8 0, .int .u8 0, .int .u8 0, .int .u8 0, .int .u8 0, .int .u8 0, .int .u8 0, .int .u8 0, .int .u8 0, .int .u8 0, .int .u8 0, .int .u8 0, .int .u8 0, .int .u8 0, .int .u8 0, .int .u8 0, .int .u8 0, .int .u8 0, .int .u8 0, .int .u8 0, .int .u8 0] : Array Value).toList.length = 32 ∧ ∀ v ∈ (#[.int .u8 0, .int .u8 0, .int .u8 0, .int .u8 0, .int .u8 0, .int .u8 0, .int .u8 0, .int .u8 0, .int .u8 0, .int .u8 0, .int .u8 0, .int .u8 0, .int .u8 0, .int .u8 0, .int .u8 0, .int .u8 0, .int .u8 0, .int .u8 0, .int .u8 0, .int .u8 0, .int .u8 0, .int .u8 0, .int .u8 0, .int .u8 0, .int .u8 0, .int .u8 0, .int .u8 0, .int .u8 0, .int .u8 0, .int .u8 0, .int .u8 0, .int .u8 0] : Array Value).toList, v.oneCell' = true := by
  have e : (#[.int .u8 0, .int .u8 0, .int .u8 0, .int .u8 0, .int .u8 0, .int .u8 0, .int .u8 0, .int .u8 0, .int .u8 0, .int .u8 0, .int .u8 0, .int .u8 0, .int .u8 0, .int .u8 0, .int .u8 0, .int .u8 0, .int .u8 0, .int .u8 0, .int .u8 0, .int .u8 0, .int .u8 0, .int .u8 0, .int .u8 0, .int .u8 0, .int .u8 0, .int .u8 0, .int .u8 0, .int .u8 0, .int .u8 0, .int .u8 0, .int .u8 0, .int .u8 0] : Array Value).toList = List.replicate 32 (.int .u8 0) := rfl
  rw [e]
  exact ⟨List.length_replicate, fun v hv => by rw [List.eq_of_mem_replicate hv]; rfl⟩
/-- so many cells, each one cell -/
def Cells1 (n : Nat) (cs : List Value) : Prop := cs.length = n ∧ ∀ v ∈ cs, v.oneCell' = true
theorem cells_ok {n p : Nat} {cs : List Value} (h : Cells1 n cs) {k : Nat} : Cells1 n (setAll cs p (cs.take k)) := ⟨by rw [setAll_length]; exact h.1, fun v hv => by
  rcases mem_setAll _ _ _ v hv with q | q
  · exact h.2 v q
  · exact h.2 v (List.mem_of_mem_take q)⟩
theorem cells_ok2 {n p : Nat} {cs ys : List Value} (h : Cells1 n cs) (hy : ∀ v ∈ ys, v.oneCell' = true) : Cells1 n (setAll cs p ys) := ⟨by rw [setAll_length]; exact h.1, fun v hv => by
  rcases mem_setAll _ _ _ v hv with q | q
  · exact h.2 v q
  · exact hy v q⟩
/-- a new row for n hashes, its cells -/
theorem make_cells1 (n : Nat) (hn : n ≤ 1048576) : ∃ cs : List Value, Cells1 (n * 32) cs ∧ ∀ w, (Instr.makeSlice 24 (.int .i64 n) (.int .i64 n)).run Tryz.prog w = .ok (.slice (some ⟨w.heap.size, 0, none⟩) n n) (w.alloc (.cells cs.toArray 23)) := by
  refine ⟨(Go.madeCells (Value.agg (List.replicate 32 (Value.int .u8 0)).toArray).cells ((n : Int).toNat * 32)).toList, ⟨by rw [Array.length_toList, Go.size_madeCells]; congr 1, fun v hv => ?_⟩, fun w => ?_⟩
  · rw [Go.madeCells, Array.toList_map] at hv
    obtain ⟨k, -, rfl⟩ := List.mem_map.1 hv
    have hz : (Value.agg (List.replicate 32 (Value.int .u8 0)).toArray).cells = (List.replicate 32 (Value.int .u8 0)).toArray := rfl
    have hsz : ((List.replicate 32 (Value.int .u8 0)).toArray : Array Value).size = 32 := by simp
    rw [hz, hsz, getElem!_pos _ _ (by rw [hsz]; omega), List.getElem_toArray, List.getElem_replicate]
    rfl
  · obtain ⟨i, hi, hz, hs, hb⟩ : ∃ i, Tryz.prog.info? 23 = some i ∧ i.zero = some (.agg (List.replicate 32 (Value.int .u8 0)).toArray) ∧ i.size = 32 ∧ i.bytes = 32 := by
      have := info_hash
      cases hq : Tryz.prog.info? 23 with
      | none => rw [hq] at this; cases this
      | some i => rw [hq] at this; simp only [Option.map_some, Option.some.injEq, Prod.mk.injEq] at this; exact ⟨i, rfl, this.1, this.2.1, this.2.2⟩
    have := run_make (P := Tryz.prog) w 24 23 i (.agg (List.replicate 32 (Value.int .u8 0)).toArray) Tryz.underlying24 hi hz .i64 .i64 (n : Int) (n : Int) (by omega) (by omega) (by rw [hb]; omega) (by omega)
    rw [this, hs, Array.toArray_toList]; rfl
set_option maxRecDepth 100000 in
set_option maxHeartbeats 8000000 in
theorem mul64_67 (w : World) : Calls Tryz.prog 201 #[.int .u64 1, .int .u64 67] w fun ev w' => ev = .returned (.tuple #[.int .u64 0, .int .u64 67]) ∧ w = w' := by
  have e1 : bits .and .u64 1 4294967295 = 1 := by decide
  have e2 : bits .and .u64 67 4294967295 = 67 := by decide
  have e3 : bits .and .u64 0 4294967295 = 0 := by decide
  go_enter Tryz.func201, Tryz.ntmps201
  go_wp2
  go_ret2
  exact ⟨rfl, rfl⟩
set_option maxRecDepth 100000 in
set_option maxHeartbeats 8000000 in
theorem mul_67 (w : World) : Calls Tryz.prog 176 #[.int .u64 1, .int .u64 67] w fun ev w' => ev = .returned (.tuple #[.int .u64 0, .int .u64 67]) ∧ w = w' := by
  have HM := Lib.hid (mul64_67 w)
  go_enter Tryz.func176, Tryz.ntmps176
  go_wp2_with fail
  refine HM.out.mono ?_
  rintro ev w1 ⟨rfl, rfl⟩
  go_wp2_with fail
  go_ret2
  exact ⟨rfl, rfl⟩
set_option maxRecDepth 100000 in
set_option maxHeartbeats 8000000 in
theorem rep_ok (g : Nat) (w : World) (hg : w.heap[g]? = some (.cells #[.int .u8 0, .int .u8 0, .int .u8 0, .int .u8 0, .int .u8 0, .int .u8 0, .int .u8 0, .int .u8 0, .int .u8 0, .int .u8 0, .int .u8 0, .int .u8 0, .int .u8 0, .int .u8 0, .int .u8 0, .int .u8 0, .int .u8 0, .int .u8 0, .int .u8 0, .int .u8 0, .int .u8 0, .int .u8 0, .int .u8 0, .int .u8 0, .int .u8 0, .int .u8 0, .int .u8 0, .int .u8 0, .int .u8 0, .int .u8 0, .int .u8 0, .int .u8 0] 23 (0, 0))) :
    Calls Tryz.prog 111 #[.slice (some ⟨g, 0, none⟩) 1 1, .int .i64 67] w fun ev w' => ∃ (G : Nat) (cs : List Value), w.heap.size ≤ G ∧ ev = .returned (.slice (some ⟨G, 0, none⟩) 67 67) ∧ Cells1 (67 * 32) cs ∧ w'.heap[G]? = some (.cells cs.toArray 23 (0, 0)) ∧ Below w.heap.size w w' := by
  obtain ⟨mk, hml, hmk⟩ := make_cells1 67 (by omega)
  have hmk2 : ∀ w, (Instr.makeSlice 24 (.int .i64 67) (.int .i64 67)).run Tryz.prog w = .ok (.slice (some ⟨w.heap.size, 0, none⟩) 67 67) (w.alloc (.cells mk.toArray 23)) := hmk
  have HMU := Lib.hid (fun (w' : World) => mul_67 w')
  have HMK := Lib.hid hml
  have HG0 := Lib.hid hg
  have hgl : g < w.heap.size := (Array.getElem?_eq_some_iff.1 hg).1
  clear hg hml hmk
  go_enter Tryz.func111, Tryz.ntmps111
  go_upto_region 3 with fail
  go_wp2_with fail
  refine (HMU.out _).mono ?_
  rintro ev w0 ⟨rfl, rfl⟩
  go_upto_region 6 with fail
  go_upto_region 7 with fail
  obtain ⟨w1, hw1⟩ : ∃ x, w.alloc (.cells mk.toArray 23) = x := ⟨_, rfl⟩
  have B1 : Hid (Below w.heap.size w w1) := Lib.hid (by rw [← hw1]; exact (Below.refl _ _).alloc (Nat.le_refl _) _)
  have R1 : Hid (w1.heap[w.heap.size]? = some (.cells mk.toArray 23 (0, 0))) := Lib.hid (by rw [← hw1]; exact heap_at _ _ _ rfl)
  have HG1 := Lib.hid ((B1.out.block _ hgl).trans HG0.out)
  obtain ⟨G, hG⟩ : ∃ x, w.heap.size = x := ⟨_, rfl⟩
  have HGE : Hid (w.heap.size = G) := Lib.hid hG
  obtain ⟨zl, hzl⟩ : ∃ x, (#[.int .u8 0, .int .u8 0, .int .u8 0, .int .u8 0, .int .u8 0, .int .u8 0, .int .u8 0, .int .u8 0, .int .u8 0, .int .u8 0, .int .u8 0, .int .u8 0, .int .u8 0, .int .u8 0, .int .u8 0, .int .u8 0, .int .u8 0, .int .u8 0, .int .u8 0, .int .u8 0, .int .u8 0, .int .u8 0, .int .u8 0, .int .u8 0, .int .u8 0, .int .u8 0, .int .u8 0, .int .u8 0, .int .u8 0, .int .u8 0, .int .u8 0, .int .u8 0] : Array Value).toList = x := ⟨_, rfl⟩
  have HZL : Hid (zl.length = 32 ∧ ∀ v ∈ zl, v.oneCell' = true) := Lib.hid (by rw [← hzl]; exact zl_cells)
  have HZR : Hid (w1.rangeAt g 0 zl) := Lib.hid (by rw [← hzl]; exact range_all HG1.out)
  clear hzl
  rw [hw1]
  rw [hG] at R1 ⊢
  clear hw1 hmk2
  go_upto_region 8 with (refine wpList_copy_mid rfl _ _ 24 24 rfl 23 32 Tryz.underlying24 (by kernel_rfl) G 0 67 67 rfl g 0 1 1 rfl zl HZL.out.1 HZR.out (there_row R1.out (by rw [HMK.out.1, HZL.out.1]; omega)) HZL.out.2 ?_)
  obtain ⟨w2, hw2⟩ : ∃ x, w1.setCells G 0 zl = x := ⟨_, rfl⟩
  obtain ⟨K2, R2, f2⟩ := st_mid (But.refl (· = G) w1) hw2 (fun _ => rfl) R1.out
  have R2 := Lib.hid R2
  have C2 : Hid (Cells1 (67 * 32) (setAll mk 0 zl)) := Lib.hid (cells_ok2 HMK.out HZL.out.2)
  have B2 : Hid (Below G w w2) := Lib.hid (by rw [← HGE.out]; exact B1.out.trans (But.to_below K2 B1.out.size (fun k hk q => by have := HGE.out; omega)))
  rw [hw2]
  clear hw2 K2 f2
  clear hG
  go_wp2_with fail
  go_loopw [8] (fun k wr => ∃ (i : Nat) (cs : List Value), i ≤ 67 ∧ 1 ≤ i ∧ k = .int .i64 i ∧ Hid (Cells1 (67 * 32) cs) ∧ Hid (wr.heap[G]? = some (.cells cs.toArray 23 (0, 0))) ∧ Hid (But (· = G) w2 wr)) (fun k _ => 67 - (intOf k).toNat)
  case atStart => exact ⟨1, _, by omega, by omega, rfl, C2, R2, Lib.hid (But.refl _ _)⟩
  case round =>
    obtain ⟨i, cs, hi, hi1, rfl, HC, HR, HB⟩ := hrel
    have HGL : Hid (G < wr.heap.size) := Lib.hid (Array.getElem?_eq_some_iff.1 HR.out).1
    have hgl2 := HGL.out
    by_cases hlt : i < 67
    · obtain ⟨m, hm⟩ : ∃ m, Nat.min i (67 - i) = m := ⟨_, rfl⟩
      have HM : Hid (Nat.min i (67 - i) = m ∧ i + m ≤ 67 ∧ 0 < m ∧ m ≤ i) := Lib.hid ⟨hm, (show i + m ≤ 67 from by have h9 : m ≤ 67 - i := hm ▸ Nat.min_le_right _ _; omega), by rw [← hm]; exact Nat.lt_min.2 ⟨by omega, by omega⟩, by rw [← hm]; exact Nat.min_le_left _ _⟩
      have k0 : (0 : Int) ≤ i := by omega
      have k1 : (i : Int) ≤ 67 := by omega
      have k2 : decide ((i : Int) < 67) = true := by simp; omega
      have k3 : (67 = i) = False := by simp; omega
      have k4 : IntKind.i64.wrap ((i : Int) + m) = (i : Int) + m := IntWalk.i64_in _ (by have := HM.out; omega)
      clear hm
      go_upto_region 9 with fail
      refine wp_region_held_drew (S := But (· = G) wr) (by kernel_rfl) (But.refl _ _).drew (fun hHeld => ?_)
      refine tk (i := 0) (v := ?v1) rfl ?y1 ?r1
      case y1 => (intro w hSw; (try dsimp only at hSw); go_simp; (try with_reducible rfl))
      try simp only [pu]
      refine tk (i := 1) (v := ?v2) rfl ?y2 ?r2
      case y2 => (intro w hSw; (try dsimp only at hSw); go_simp; (try with_reducible rfl))
      try simp only [pu]
      refine tk (i := 2) (v := ?v3) rfl ?y3 ?r3
      case y3 => (intro w hSw; (try dsimp only at hSw); go_simp; (try with_reducible rfl))
      try simp only [pu]
      refine tk (i := 3) (v := ?v4) rfl ?y4 ?r4
      case y4 => (intro w hSw; (try dsimp only at hSw); go_simp; (try with_reducible rfl))
      try simp only [pu]
      refine tk (i := 4) (v := ?v5) rfl ?y5 ?r5
      case y5 => (intro w hSw; (try dsimp only at hSw); go_simp; (try with_reducible rfl))
      try simp only [pu]
      refine tk (i := 5) (v := ?v6) rfl ?y6 ?r6
      case y6 => (intro w hSw; (try dsimp only at hSw); go_simp; (try with_reducible rfl))
      try simp only [pu]
      refine tk (i := 6) (v := ?v7) rfl ?y7 ?r7
      case y7 => (intro w hSw; (try dsimp only at hSw); go_simp; (try with_reducible rfl))
      try simp only [pu]
      refine wpAnyH_ready (rs := [7]) (by kernel_rfl) (by simp) ?_
      refine AllReadyH.cons (i := 7) rfl (fun K2 hK2 => ?_) AllReadyH.nil
      rw [if_pos (by rfl)]
      refine wp_copy_mid _ _ 24 24 rfl 23 32 Tryz.underlying24 (by kernel_rfl) G (i * 32) (67 - i) (67 - i) rfl G 0 i 67 rfl (cs.take (32 * m)) (by rw [List.length_take, HC.out.1, HM.out.1]; have := HM.out.2; omega) (range_cells (show wr.drew.heap[G]? = _ from HR.out) _) (there_row (show wr.drew.heap[G]? = _ from HR.out) (by rw [List.length_take, HC.out.1]; have := HM.out.2; omega)) (fun v h => HC.out.2 v (List.mem_of_mem_take h)) ?_
      obtain ⟨w701, hw701⟩ : ∃ x, wr.drew.setCells G (i * 32) (cs.take (32 * m)) = x := ⟨_, rfl⟩
      obtain ⟨Kw701, Tw701_0, fw701⟩ := st_mid ((But.refl (· = G) wr).drew) hw701 (fun _ => rfl) (show wr.drew.heap[G]? = _ from HR.out)
      have Kw701 := Lib.hid Kw701
      have Tw701_0 := Lib.hid Tw701_0
      clear fw701
      rw [hw701, HM.out.1]
      clear hw701
      refine hK2.out _ _ Kw701.out (fun hHeld2 => ?_)
      clear hK2 K2
      try simp only [pu]
      refine tk (i := 8) (v := ?v8) rfl ?y8 ?r8
      case y8 => (intro w hSw; (try dsimp only at hSw); go_simp; (try with_reducible rfl))
      try simp only [pu]
      refine tk (i := 9) (v := ?v9) rfl ?y9 ?r9
      case y9 => (intro w hSw; (try dsimp only at hSw); go_simp; (try with_reducible rfl))
      try simp only [pu]
      refine wpAnyH_done (by kernel_rfl) ?_ _
      have KE : Hid (But (· = G) wr w701) := Lib.hid Kw701.out
      have TE := Lib.hid Tw701_0.out
      go_wp2
      go_roundw
      case rel => exact ⟨i + m, _, by have := HM.out; omega, by have := HM.out; omega, by go_num, Lib.hid (cells_ok HC.out), TE, Lib.hid (HB.out.step KE.out (fun _ _ q => q))⟩
      case measure => simp [intOf]; have := HM.out; omega
    · obtain rfl : i = 67 := by omega
      go_wp2_with fail
      go_ret
      exact ⟨G, cs, Nat.le_of_eq HGE.out, rfl, HC.out, HR.out, by rw [HGE.out]; exact B2.out.trans (HB.out.to_below (by have := B2.out.size; have := HGE.out; omega) (fun k hk q => by omega))⟩
end Go.Proofs.YtnpblpbcchminaaGreatDoor
/- A reader that stands somewhere or has a fault: Var, Hash, End. Condition: the table reads as listed. -/
namespace Go.Proofs.YtnpblpbcchminaaGreatDoor
open Go.ChangeShapes Go.WideShapes Go.ChangeAt Go.RowKit
set_option linter.unusedVariables false
/-- a reader in block p: at a place, or with a fault -/
def RSt (p : Nat) (w : World) (S : ByteArray) : Option Nat → Prop
  | some i => ROk p w S i
  | none => RBad p w S
/-- the next number; the next hash; the place behind them -/
def varS (S : ByteArray) : Option Nat → Nat × Option Nat
  | none => (0, none)
  | some i => match numF 0 0 ((bOf S).drop i) with
    | some (v, k) => (v, some (i + k))
    | none => (0, none)
def hashS (S : ByteArray) : Option Nat → List UInt8 × Option Nat
  | none => (zeroH, none)
  | some i => if i + 32 ≤ S.size then (((bOf S).drop i).take 32, some (i + 32)) else (zeroH, none)
/-- the place behind so many hashes; the hash there -/
def stS (S : ByteArray) (o : Option Nat) : Nat → Option Nat
  | 0 => o
  | k + 1 => (hashS S (stS S o k)).2
def hsS (S : ByteArray) (o : Option Nat) (k : Nat) : List UInt8 := (hashS S (stS S o k)).1
theorem hashS_length (S : ByteArray) (o : Option Nat) : (hashS S o).1.length = 32 := by
  unfold hashS
  split
  · exact zeroH_length
  · split
    · rename_i i h
      rw [List.length_take, List.length_drop, bOf_length]; omega
    · exact zeroH_length
theorem hsS_length (S : ByteArray) (o : Option Nat) (k : Nat) : (hsS S o k).length = 32 := hashS_length S _
theorem RSt.lt {p : Nat} {w : World} {S : ByteArray} {o : Option Nat} (h : RSt p w S o) : p < w.heap.size := by
  cases o with
  | none => obtain ⟨i, x, h⟩ := h; exact h.lt
  | some i => exact RRow.lt h
theorem RSt.below {p : Nat} {w w' : World} {S : ByteArray} {o : Option Nat} (h : RSt p w S o) (hb : Below w.heap.size w w') : RSt p w' S o := by
  cases o with
  | none => exact RBad.below h hb
  | some i => exact RRow.below h hb
/-- the reader's row, which is all that hangs on the world -/
theorem RSt.row {p : Nat} {w : World} {S : ByteArray} {o : Option Nat} (h : RSt p w S o) : ∃ rv, w.heap[p]? = some (.cells rv 243 (0, 0)) ∧ ∀ w' : World, w'.heap[p]? = some (.cells rv 243 (0, 0)) → RSt p w' S o := by
  cases o with
  | none =>
    obtain ⟨i, x, h1, h2⟩ := h
    exact ⟨_, h1, fun w' h' => ⟨i, x, h', h2⟩⟩
  | some i => exact ⟨_, h.1, fun w' h' => ⟨h', h.2⟩⟩
theorem rvar_st (a : Nat → Addr) (B p : Nat) (S : ByteArray) (o : Option Nat) (w : World) (hE : Env B a w) (hpB : B ≤ p) (h : RSt p w S o) :
    Calls Tryz.prog 110 #[.pointer (some ⟨p, 0, none⟩)] w fun ev w' => ev = .returned (.int .u64 (varS S o).1) ∧ RSt p w' S (varS S o).2 ∧ But (· = p) w w' := by
  cases o with
  | none => 
    refine (rvar_bad p S w h).mono ?_
    rintro ev w' ⟨rfl, rfl⟩
    exact ⟨rfl, h, But.refl _ _⟩
  | some i =>
    cases hn : numF 0 0 ((bOf S).drop i) with
    | none =>
      have e : varS S (some i) = (0, none) := by simp [varS, hn]
      rw [e]
      exact rvar_none a B p i S w hE hpB h hn
    | some q =>
      obtain ⟨v, k⟩ := q
      have e : varS S (some i) = (v, some (i + k)) := by simp [varS, hn]
      rw [e]
      exact rvar_some p i v k S w h hn
theorem rhash_st (a : Nat → Addr) (B p : Nat) (S : ByteArray) (o : Option Nat) (w : World) (hE : Env B a w) (hpB : B ≤ p) (h : RSt p w S o) :
    Calls Tryz.prog 112 #[.pointer (some ⟨p, 0, none⟩)] w fun ev w' => ev = .returned (hv (hashS S o).1) ∧ RSt p w' S (hashS S o).2 ∧ But (· = p) w w' := by
  cases o with
  | none => exact (rhash_bad p S w h).mono fun ev w' q => ⟨q.1, RSt.below (o := none) h q.2, but_of p q.2⟩
  | some i =>
    by_cases hk : i + 32 ≤ S.size
    · have e : hashS S (some i) = (((bOf S).drop i).take 32, some (i + 32)) := by show (if i + 32 ≤ S.size then _ else _) = _; rw [if_pos hk]
      rw [e]
      exact rhash_yes p i S w h hk
    · have e : hashS S (some i) = (zeroH, none) := by show (if i + 32 ≤ S.size then _ else _) = _; rw [if_neg hk]
      rw [e]
      exact rhash_no a B p i S w hE hpB h (by omega)
theorem rend_st (a : Nat → Addr) (B p : Nat) (S : ByteArray) (o : Option Nat) (w : World) (hE : Env B a w) (h : RSt p w S o) :
    Calls Tryz.prog 113 #[.pointer (some ⟨p, 0, none⟩)] w fun ev w' => ((o = some S.size ∧ ev = .returned .nilIface) ∨ (o ≠ some S.size ∧ ∃ x, ev = .returned (.iface 251 (.pointer (some x))))) ∧ Below w.heap.size w w' := by
  cases o with
  | none => exact (rend_bad p S w h).mono fun ev w' q => ⟨.inr ⟨by simp, q.1⟩, q.2⟩
  | some i =>
    by_cases hi : i = S.size
    · subst hi
      exact (rend_done p S w h).mono fun ev w' q => ⟨.inl ⟨rfl, q.1⟩, q.2⟩
    · exact (rend_left a B p i S w hE h (by have := h.2.1; omega)).mono fun ev w' q => ⟨.inr ⟨by simp; omega, q.1⟩, q.2⟩
end Go.Proofs.YtnpblpbcchminaaGreatDoor
