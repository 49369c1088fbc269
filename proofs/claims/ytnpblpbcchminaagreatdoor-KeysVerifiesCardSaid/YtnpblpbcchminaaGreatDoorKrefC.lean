/- cartularyref02.Fixed in four bytes; cartularyref23.four, Message. Condition: the table reads as listed. -/
import Derived.Test.YtnpblpbcchminaaGreatDoorKrefA
namespace Go.Proofs.YtnpblpbcchminaaGreatDoor
open Go.ChangeShapes Go.WideShapes Go.ChangeAt Go.RowKit
set_option linter.unusedVariables false

theorem info_u8r : (Tryz.prog.info? 5).map (fun i => (i.zero, i.size, i.bytes)) = some (some (.int .u8 0), 1, 1) := by kernel_rfl
theorem results_tmp_row {P : Program} {fn : Func} {p u : Tmp} {ty : TypeId} (h : fn.results = #[.tmp u, .cell p ty]) (tmps : Array Value) (w : World) (g : Nat) (t : TypeId) (cs : Array Value) (fr : Nat × Nat) (d : TypeDesc)
    (hp : tmps.getD p undef = .pointer (some ⟨g, 0, none⟩)) (hg : w.heap[g]? = some (.cells cs t fr))
    (hu : P.underlying ty = some d) (hd : (match d with | .struct _ | .array _ _ => true | _ => false) = true) (hi : (P.info? ty).map (·.size) = some cs.size) (x : Value) (hx : tmps.getD u undef = x) :
    (results fn tmps).run P w = .ok (.tuple #[x, .agg cs]) w := by
  subst hx
  rw [Array.getD_eq_getD_getElem?] at hp
  simp only [results, h]
  simp [hp, asAddr, run_loadVar_row w g t ty cs fr d hg hu hd hi, Result.andThen]
set_option maxRecDepth 100000 in
set_option maxHeartbeats 4000000 in

set_option maxRecDepth 100000 in
set_option maxHeartbeats 8000000 in
theorem fixed4_any (i : Nat) (w : World) (hi9 : i < 65536) :
    Calls Tryz.prog 194 #[.int .u64 i, .int .i64 4] w fun ev w' => ev = .returned (.tuple #[.string ⟨(fourB i).toArray⟩, .agg #[.int .i64 0, .int .i64 0]]) ∧ Below w.heap.size w w' := by
  obtain ⟨i0, hi, hz0, hz1, hz2⟩ := info_parts info_u8r
  have hmk : ∀ w : World, (Instr.makeSlice 138 (.int .i64 4) (.int .i64 4)).run Tryz.prog w = .ok (.slice (some ⟨w.heap.size, 0, none⟩) 4 4) (w.alloc (.cells #[.int .u8 0, .int .u8 0, .int .u8 0, .int .u8 0] 5)) := fun w => by
    have := run_make (P := Tryz.prog) w 138 5 i0 (.int .u8 0) Tryz.underlying138 hi hz0 .i64 .i64 4 4 (by omega) (by omega) (by rw [hz2]; omega) (by omega)
    rw [hz1, show madeCells (Value.int .u8 0).cells ((4 : Int).toNat * 1) = #[.int .u8 0, .int .u8 0, .int .u8 0, .int .u8 0] by first | rfl | kernel_rfl | decide] at this
    exact this
  obtain ⟨s, hs⟩ : ∃ s : ByteArray, ⟨(fourB i).toArray⟩ = s := ⟨_, rfl⟩
  have HS := Lib.hid hs
  obtain ⟨n1, hn1⟩ : ∃ n1 : Nat, i / 256 = n1 := ⟨_, rfl⟩
  obtain ⟨x4, hx4⟩ : ∃ x : Int, ((UInt8.ofNat i).toNat : Int) = x := ⟨_, rfl⟩
  obtain ⟨x3, hx3⟩ : ∃ x : Int, ((UInt8.ofNat (i / 256)).toNat : Int) = x := ⟨_, rfl⟩
  have HR4 : Hid ((bytesV (fourB i)).toArray = #[.int .u8 0, .int .u8 0, .int .u8 x3, .int .u8 x4]) := Lib.hid (by
    rw [← hx3, ← hx4]
    have h1 : i / 16777216 = 0 := by omega
    have h2 : i / 65536 = 0 := by omega
    simp [fourB, bytesV, byteV, h1, h2])
  have hn9 : n1 < 256 := by omega
  have e4 : IntKind.u8.wrap ((i : Int) % 256) = x4 := by rw [← hx4, IntKind.wrap_u8]; simp
  have e3 : IntKind.u8.wrap ((n1 : Int) % 256) = x3 := by rw [← hx3, ← hn1, IntKind.wrap_u8]; simp
  have q1 : (i : Int) / 256 = (n1 : Int) := by omega
  have q2 : (n1 : Int) / 256 = 0 := by omega
  obtain ⟨wv, hwv⟩ : ∃ y9 : World, (w.alloc (.cells #[.int .i64 0, .int .i64 0] 34)) = y9 := ⟨_, rfl⟩
  have HBv : Hid (Below w.heap.size w wv) := Lib.hid (by rw [← hwv]; exact ((Below.refl _ _).alloc (by simp <;> omega) _))
  have HSV : Hid (wv.heap.size = w.heap.size + 1) := Lib.hid (by rw [← hwv]; simp)
  have RF : Hid (wv.heap[w.heap.size]? = some (.cells #[.int .i64 0, .int .i64 0] 34 (0, 0))) := Lib.hid (by rw [← hwv]; exact heap_at _ _ _ (by simp <;> omega))
  have HWV := Lib.hid hwv
  have hsv := HSV.out
  rw [hs]
  clear hwv hs hn1 hx4 hx3
  go_enter Tryz.func194, Tryz.ntmps194
  go_upto_region 1 with fail
  rw [HWV.out]
  go_upto_region 4 with fail
  obtain ⟨w1, hw1⟩ : ∃ y, wv.alloc (.cells #[.int .u8 0, .int .u8 0, .int .u8 0, .int .u8 0] 5) = y := ⟨_, rfl⟩
  obtain ⟨G, hG⟩ : ∃ G, wv.heap.size = G := ⟨_, rfl⟩
  have R1 : Hid (w1.heap[G]? = some (.cells #[.int .u8 0, .int .u8 0, .int .u8 0, .int .u8 0] 5 (0, 0))) := Lib.hid (by rw [← hw1, ← hG]; exact heap_at _ _ _ rfl)
  have HB1 : Hid (Below w.heap.size w w1) := Lib.hid (by rw [← hw1]; exact HBv.out.alloc HBv.out.size _)
  have RF1 : Hid (w1.heap[w.heap.size]? = some (.cells #[.int .i64 0, .int .i64 0] 34 (0, 0))) := Lib.hid (by rw [← hw1]; exact (((Below.refl wv.heap.size wv).alloc (Nat.le_refl _) _).block _ (by omega)).trans RF.out)
  have hgg : w.heap.size + 1 = G := by omega
  rw [hw1]
  rw [hgg]
  clear hw1 hG hmk
  go_wp2_with fail
  go_loopw [0, 7] (fun n k wr => (n = .int .u64 (i : Int) ∧ k = .int .i64 3 ∧ Hid (wr.heap[G]? = some (.cells #[.int .u8 0, .int .u8 0, .int .u8 0, .int .u8 0] 5 (0, 0))) ∧ Hid (Below G w1 wr)) ∨ (n = .int .u64 (n1 : Int) ∧ k = .int .i64 2 ∧ Hid (wr.heap[G]? = some (.cells #[.int .u8 0, .int .u8 0, .int .u8 0, .int .u8 x4] 5 (0, 0))) ∧ Hid (Below G w1 wr)) ∨ (n = .int .u64 0 ∧ k = .int .i64 1 ∧ Hid (wr.heap[G]? = some (.cells #[.int .u8 0, .int .u8 0, .int .u8 x3, .int .u8 x4] 5 (0, 0))) ∧ Hid (Below G w1 wr)) ∨ (n = .int .u64 0 ∧ k = .int .i64 0 ∧ Hid (wr.heap[G]? = some (.cells #[.int .u8 0, .int .u8 0, .int .u8 x3, .int .u8 x4] 5 (0, 0))) ∧ Hid (Below G w1 wr)) ∨ (n = .int .u64 0 ∧ k = .int .i64 (-1) ∧ Hid (wr.heap[G]? = some (.cells #[.int .u8 0, .int .u8 0, .int .u8 x3, .int .u8 x4] 5 (0, 0))) ∧ Hid (Below G w1 wr))) (fun _ k _ => (intOf k + 1).toNat)
  case atStart => exact .inl ⟨rfl, by go_num, R1, Lib.hid (Below.refl _ _)⟩
  case round =>
    rcases hrel with ⟨rfl, rfl, R, HB⟩ | ⟨rfl, rfl, R, HB⟩ | ⟨rfl, rfl, R, HB⟩ | ⟨rfl, rfl, R, HB⟩ | ⟨rfl, rfl, R, HB⟩
    · have z := cell_of_row wr G 3 _ 5 (0, 0) R.out
      have z' : wr.cell? ⟨G, 3, none⟩ = some (.int .u8 0) := z.trans rfl
      have zf := frozen_of_row wr G 3 _ 5 R.out
      obtain ⟨w9, hw9⟩ : ∃ y, wr.setCell ⟨G, 3, none⟩ (.int .u8 x4) = y := ⟨_, rfl⟩
      have R9 : Hid (w9.heap[G]? = some (.cells #[.int .u8 0, .int .u8 0, .int .u8 0, .int .u8 x4] 5 (0, 0))) := Lib.hid (by rw [← hw9]; exact heap_setCell_same wr G 3 _ 5 _ R.out)
      have B9 : Hid (Below G w1 w9) := Lib.hid (by rw [← hw9]; exact Below.setCell (p := ⟨G, 3, none⟩) HB.out (Nat.le_refl G) _)
      clear z
      go_wp2
      go_roundw
      case rel => exact .inr (.inl ⟨rfl, by go_num, R9, B9⟩)
      case measure => simp [intOf]
    · have z := cell_of_row wr G 2 _ 5 (0, 0) R.out
      have z' : wr.cell? ⟨G, 2, none⟩ = some (.int .u8 0) := z.trans rfl
      have zf := frozen_of_row wr G 2 _ 5 R.out
      obtain ⟨w9, hw9⟩ : ∃ y, wr.setCell ⟨G, 2, none⟩ (.int .u8 x3) = y := ⟨_, rfl⟩
      have R9 : Hid (w9.heap[G]? = some (.cells #[.int .u8 0, .int .u8 0, .int .u8 x3, .int .u8 x4] 5 (0, 0))) := Lib.hid (by rw [← hw9]; exact heap_setCell_same wr G 2 _ 5 _ R.out)
      have B9 : Hid (Below G w1 w9) := Lib.hid (by rw [← hw9]; exact Below.setCell (p := ⟨G, 2, none⟩) HB.out (Nat.le_refl G) _)
      clear z
      go_wp2
      go_roundw
      case rel => exact .inr (.inr (.inl ⟨rfl, by go_num, R9, B9⟩))
      case measure => simp [intOf]
    · have z := cell_of_row wr G 1 _ 5 (0, 0) R.out
      have z' : wr.cell? ⟨G, 1, none⟩ = some (.int .u8 0) := z.trans rfl
      have zf := frozen_of_row wr G 1 _ 5 R.out
      obtain ⟨w9, hw9⟩ : ∃ y, wr.setCell ⟨G, 1, none⟩ (.int .u8 0) = y := ⟨_, rfl⟩
      have R9 : Hid (w9.heap[G]? = some (.cells #[.int .u8 0, .int .u8 0, .int .u8 x3, .int .u8 x4] 5 (0, 0))) := Lib.hid (by rw [← hw9]; exact heap_setCell_same wr G 1 _ 5 _ R.out)
      have B9 : Hid (Below G w1 w9) := Lib.hid (by rw [← hw9]; exact Below.setCell (p := ⟨G, 1, none⟩) HB.out (Nat.le_refl G) _)
      clear z
      go_wp2
      go_roundw
      case rel => exact .inr (.inr (.inr (.inl ⟨rfl, by go_num, R9, B9⟩)))
      case measure => simp [intOf]
    · have z := cell_of_row wr G 0 _ 5 (0, 0) R.out
      have z' : wr.cell? ⟨G, 0, none⟩ = some (.int .u8 0) := z.trans rfl
      have zf := frozen_of_row wr G 0 _ 5 R.out
      obtain ⟨w9, hw9⟩ : ∃ y, wr.setCell ⟨G, 0, none⟩ (.int .u8 0) = y := ⟨_, rfl⟩
      have R9 : Hid (w9.heap[G]? = some (.cells #[.int .u8 0, .int .u8 0, .int .u8 x3, .int .u8 x4] 5 (0, 0))) := Lib.hid (by rw [← hw9]; exact heap_setCell_same wr G 0 _ 5 _ R.out)
      have B9 : Hid (Below G w1 w9) := Lib.hid (by rw [← hw9]; exact Below.setCell (p := ⟨G, 0, none⟩) HB.out (Nat.le_refl G) _)
      clear z
      go_wp2
      go_roundw
      case rel => exact .inr (.inr (.inr (.inr (⟨rfl, by go_num, R9, B9⟩))))
      case measure => simp [intOf]
    · have kb : (convert 138 9 (.slice (some ⟨G, 0, none⟩) 4 4)).run Tryz.prog wr = .ok (.string s) wr := by
        rw [← HS.out]
        exact bytes_back _ G 0 4 (fourB i) rfl (range_row _ R.out HR4.out)
      have RF9 : Hid (wr.heap[w.heap.size]? = some (.cells #[.int .i64 0, .int .i64 0] 34 (0, 0))) := Lib.hid ((HB.out.block _ (by omega)).trans RF1.out)
      have HF1 := Lib.hid (HB1.out.trans (HB.out.mono (by omega)))
      go_wp2_with (refine wpList_store_row rfl 34 _ _ rfl w.heap.size #[.int .i64 0, .int .i64 0] rfl rfl 34 _ RF9.out (by kernel_rfl) rfl (by simp [Value.oneCell']) ?_)
      refine bodyPost_ret (v := .tuple #[.string s, .agg #[.int .i64 0, .int .i64 0]]) (results_tmp_row rfl _ _ w.heap.size 34 #[.int .i64 0, .int .i64 0] (0, 0) _ rfl (setRow_heap _ _ _ _ _ _ RF9.out) Tryz.underlying34 rfl (by kernel_rfl) _ rfl) rfl ⟨rfl, below_setRow HF1.out _ _ (Nat.le_refl _)⟩

set_option maxRecDepth 100000 in
set_option maxHeartbeats 8000000 in
theorem rfour_any (i : Nat) (w : World) (hi9 : i < 65536) :
    Calls Tryz.prog 131 #[.int .i64 i] w fun ev w' => ev = .returned (.string ⟨(fourB i).toArray⟩) ∧ Below w.heap.size w w' := by
  obtain ⟨s, hs⟩ : ∃ s : ByteArray, ⟨(fourB i).toArray⟩ = s := ⟨_, rfl⟩
  have HFX : Hid (Calls Tryz.prog 194 #[.int .u64 i, .int .i64 4] w fun ev w' => ev = .returned (.tuple #[.string s, .agg #[.int .i64 0, .int .i64 0]]) ∧ Below w.heap.size w w') := Lib.hid (by
    have := fixed4_any i w hi9
    rw [hs] at this; exact this)
  have e1 : IntKind.u64.wrap (i : Int) = i := IntWalk.u64_in _ (by omega)
  rw [hs]
  clear hs
  go_enter Tryz.func131, Tryz.ntmps131
  go_wp2_with fail
  refine HFX.out.mono ?_
  rintro ev w1 ⟨rfl, b1⟩
  have B1 := Lib.hid b1
  clear b1
  go_upto_region 2 with fail
  obtain ⟨w2, hw2⟩ : ∃ y, w1.alloc (.cells #[.int .i64 0, .int .i64 0] 34) = y := ⟨_, rfl⟩
  have B2 : Hid (Below w.heap.size w w2) := Lib.hid (by rw [← hw2]; exact B1.out.alloc B1.out.size _)
  rw [hw2]
  clear hw2
  go_wp2
  go_ret
  exact ⟨rfl, B2.out⟩
set_option maxRecDepth 100000 in
set_option maxHeartbeats 8000000 in
theorem rmsg_any (i : Nat) (t : ByteArray) (w : World) (hi9 : i < 65536) (ht : t.size ≤ 99999999990) :
    Calls Tryz.prog 40 #[.int .i64 i, .string t] w fun ev w' => ev = .returned (hv (msgB i (bOf t))) ∧ Below w.heap.size w w' := by
  obtain ⟨vr, evr, Hvr, Zvr, Ivr, Ovr⟩ := row_of (msgB i (bOf t)) (msgB_length _ _)
  obtain ⟨s1, hs1⟩ : ∃ s : ByteArray, ⟨(fourB i).toArray⟩ = s := ⟨_, rfl⟩
  have HFO : Hid (∀ w', Calls Tryz.prog 131 #[.int .i64 i] w' fun ev w2 => ev = .returned (.string s1) ∧ Below w'.heap.size w' w2) := Lib.hid (fun w' => by
    have := rfour_any i w' hi9
    rw [hs1] at this; exact this)
  have HSM : Hid (∀ w', Calls Tryz.prog 130 #[.string ((⟨#[6]⟩ ++ s1) ++ t)] w' fun ev w2 => ev = .returned (.agg vr) ∧ Below w'.heap.size w' w2) := Lib.hid (fun w' => by
    have h4 : bOf s1 = fourB i := by rw [← hs1]; simp [bOf]
    have h4s : s1.size = 4 := by rw [← bOf_length, h4]; rfl
    have := refsum_any ((⟨#[6]⟩ ++ s1) ++ t) w' (by rw [ByteArray.size_append, ByteArray.size_append, h4s]; show 1 + 4 + _ ≤ _; omega)
    rw [bOf_app, bOf_app, h4, show (bOf ⟨#[6]⟩ ++ fourB i) ++ bOf t = 6 :: (fourB i ++ bOf t) from rfl] at this
    rw [← evr]; exact this)
  have z1 : ByteArray.size ⟨#[6]⟩ = 1 := rfl
  have z2 : s1.size = 4 := by rw [← hs1]; rfl
  clear hs1
  obtain ⟨wv, hwv⟩ : ∃ y9 : World, (w.alloc (.cells #[.int .u8 0, .int .u8 0, .int .u8 0, .int .u8 0, .int .u8 0, .int .u8 0, .int .u8 0, .int .u8 0, .int .u8 0, .int .u8 0, .int .u8 0, .int .u8 0, .int .u8 0, .int .u8 0, .int .u8 0, .int .u8 0, .int .u8 0, .int .u8 0, .int .u8 0, .int .u8 0, .int .u8 0, .int .u8 0, .int .u8 0, .int .u8 0, .int .u8 0, .int .u8 0, .int .u8 0, .int .u8 0, .int .u8 0, .int .u8 0, .int .u8 0, .int .u8 0] 23)) = y9 := ⟨_, rfl⟩
  have HBv : Hid (Below w.heap.size w wv) := Lib.hid (by rw [← hwv]; exact ((Below.refl _ _).alloc (by simp <;> omega) _))
  have HSV : Hid (wv.heap.size = w.heap.size + 1) := Lib.hid (by rw [← hwv]; simp)
  have RV : Hid (wv.heap[w.heap.size]? = some (.cells #[.int .u8 0, .int .u8 0, .int .u8 0, .int .u8 0, .int .u8 0, .int .u8 0, .int .u8 0, .int .u8 0, .int .u8 0, .int .u8 0, .int .u8 0, .int .u8 0, .int .u8 0, .int .u8 0, .int .u8 0, .int .u8 0, .int .u8 0, .int .u8 0, .int .u8 0, .int .u8 0, .int .u8 0, .int .u8 0, .int .u8 0, .int .u8 0, .int .u8 0, .int .u8 0, .int .u8 0, .int .u8 0, .int .u8 0, .int .u8 0, .int .u8 0, .int .u8 0] 23 (0, 0))) := Lib.hid (by rw [← hwv]; exact heap_at _ _ _ (by simp <;> omega))
  have HWV := Lib.hid hwv
  have hsv := HSV.out
  have EVR := Lib.hid evr
  rw [evr]
  clear evr hwv
  go_enter Tryz.func40, Tryz.ntmps40
  go_upto_region 1 with fail
  rw [HWV.out]
  go_wp2_with fail
  refine (HFO.out wv).mono ?_
  rintro ev w0 ⟨rfl, b0⟩
  have B0 := Lib.hid b0
  clear b0
  go_wp2_with fail
  refine (HSM.out w0).mono ?_
  rintro ev w1 ⟨rfl, b1'⟩
  have b1 := B0.out.trans (b1'.mono B0.out.size)
  clear b1'
  have R1 : Hid (w1.heap[w.heap.size]? = some (.cells #[.int .u8 0, .int .u8 0, .int .u8 0, .int .u8 0, .int .u8 0, .int .u8 0, .int .u8 0, .int .u8 0, .int .u8 0, .int .u8 0, .int .u8 0, .int .u8 0, .int .u8 0, .int .u8 0, .int .u8 0, .int .u8 0, .int .u8 0, .int .u8 0, .int .u8 0, .int .u8 0, .int .u8 0, .int .u8 0, .int .u8 0, .int .u8 0, .int .u8 0, .int .u8 0, .int .u8 0, .int .u8 0, .int .u8 0, .int .u8 0, .int .u8 0, .int .u8 0] 23 (0, 0))) := Lib.hid ((b1.block _ (Array.getElem?_eq_some_iff.1 RV.out).1).trans RV.out)
  have HB1 : Hid (Below w.heap.size w w1) := Lib.hid (HBv.out.trans (b1.mono HBv.out.size))
  clear b1
  go_wp2_with (refine wpList_store_row rfl 23 _ _ rfl (w.heap.size) vr rfl rfl 23 _ R1.out Ivr.out (by rw [Zvr.out]; rfl) Ovr.out ?_)
  refine bodyPost_ret (v := .agg vr) (results_cell_row rfl _ _ (w.heap.size) 23 vr (0, 0) _ rfl (setRow_heap _ _ _ _ _ _ R1.out) Tryz.underlying23 rfl Ivr.out) rfl ⟨rfl, below_setRow HB1.out _ _ (by omega)⟩

end Go.Proofs.YtnpblpbcchminaaGreatDoor
