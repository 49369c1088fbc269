/- ref04.padded: the text's bytes, padded. -/
import Derived.Test.YtchfbdbgmlcfiaaGreatDoorRefTab
import Derived.Test.YtchfbdbgmlcfiaaGreatDoorRowApp
import Derived.Test.YtchfbdbgmlcfiaaGreatDoorShaSum
namespace Go.Proofs.YtchfbdbgmlcfiaaGreatDoor
open Go.ChangeShapes Go.WideShapes Go.ChangeAt Go.RowKit
set_option linter.unusedVariables false
theorem news1 (w : World) (u : Value) (t : TypeId) : (w.alloc (.cells #[u] t)).cell? ⟨w.heap.size, 0, none⟩ = some u := by rw [World.cell?_alloc_mark]; rfl
theorem bytesRow_lrow (w : World) (s : ByteArray) (cp B : Nat) (h1 : s.size ≤ cp) (h2 : cp ≤ maxLen) (hB : B ≤ w.heap.size) : LRow (w.alloc (.cells (bytesRow s cp) 5 ((bytesRow s cp).size, (bytesRow s cp).size + 1))) B (some ⟨w.heap.size, 0, none⟩) s.size cp (bytesV (bOf s)) := by
  have hsz : (bytesRow s cp).size = cp := by simp [bytesRow]; exact Nat.add_sub_cancel' h1
  rw [hsz]
  have hh : (w.alloc (.cells (bytesRow s cp) 5 (cp, cp + 1))).heap[w.heap.size]? = some (.cells (bytesRow s cp) 5 (cp, cp + 1)) := heap_alloc_new w _
  refine ⟨by rw [bytesV_length, bOf_length], h1, h2, _, rfl, hB, ?_, bytesRow_range w s cp _, fun j a b => ⟨?_, ?_⟩⟩
  · exact (Array.getElem?_eq_some_iff.1 hh).1
  · rw [cell_of_row _ _ j _ 5 _ hh, Array.getElem?_eq_getElem (by omega)]; rfl
  · simp only [World.frozen?, hh]; simp; omega
theorem info_u8p : (Tryz.prog.info? 5).map (fun i => (i.zero, i.size, i.bytes)) = some (some (.int .u8 0), 1, 1) := by kernel_rfl
set_option maxRecDepth 100000 in
set_option maxHeartbeats 4000000 in
theorem padded_any (s : ByteArray) (w : World) (hs : s.size ≤ 100000000000) :
    Calls Tryz.prog 167 #[.string s] w fun ev w' => ∃ A cap, ev = .returned (.slice A (bOf s ++ tailB s.size).length cap) ∧ LRow w' w.heap.size A (bOf s ++ tailB s.size).length cap (bytesV (bOf s ++ tailB s.size)) ∧ Below w.heap.size w w' := by
  have kb := fun (w : World) => run_bytes_of_string (P := Tryz.prog) w 9 149 5 s Tryz.underlying9 Tryz.underlying149 Tryz.underlying5
  obtain ⟨i0, hi, hz0, hz1, hz2⟩ := info_parts info_u8p
  have hc1 : Hid (s.size ≤ grownCap w s.size 0 5) := Lib.hid (grownCap_ge _ _ _ _)
  have hc2 : Hid (grownCap w s.size 0 5 ≤ maxLen) := Lib.hid (grownCap_le_maxLen _ _ _ _ (by unfold maxLen; omega))
  have HL0 := bytesRow_lrow w s _ _ hc1.out hc2.out (Nat.le_refl _)
  have HL := Lib.hid ((HL0.alloc (.cells #[.int .u8 128] 5)).below (Below.drew (Below.refl _ _)) (Nat.le_refl _))
  have HNW := Lib.hid (cell_below (Below.drew (Below.refl _ _)) (news1 (w.alloc (.cells (bytesRow s (grownCap w s.size 0 5)) 5 ((bytesRow s (grownCap w s.size 0 5)).size, (bytesRow s (grownCap w s.size 0 5)).size + 1))) (.int .u8 128) 5) (Nat.lt_succ_self _))
  have HX : Hid (Below w.heap.size w ((w.alloc (.cells (bytesRow s (grownCap w s.size 0 5)) 5 ((bytesRow s (grownCap w s.size 0 5)).size, (bytesRow s (grownCap w s.size 0 5)).size + 1))).alloc (.cells #[.int .u8 128] 5)).drew) := Lib.hid (((((Below.refl _ _).alloc (Nat.le_refl _) _).alloc (by simp) _).drew))
  obtain ⟨z, hz⟩ : ∃ z, (119 - s.size % 64) % 64 = z := ⟨_, rfl⟩
  have hz64 : z < 64 := by omega
  have HZ := Lib.hid hz
  have HS9 := Lib.hid hs
  clear hz HL0
  go_enter Tryz.func167, Tryz.ntmps167
  go_wp2_with (at_builtin; refine wpList_append_lrow rfl (.tmp 8) (.tmp 9) 149 rfl w.heap.size 5 i0 (.int .u8 0) 1 Tryz.underlying149 hi hz0 hz1 hz2 rfl (some ⟨w.heap.size, 0, none⟩) s.size (grownCap w s.size 0 5) _ rfl HL.out (w.heap.size + 1) 0 1 (.int .u8 128) rfl (by have h := HNW.out; simp only [World.size_alloc] at h; exact h) rfl (by unfold maxLen; omega) (by omega) (by simp; omega) ?_; intro A9 cap9 w3 hown3 hB3)
  obtain ⟨n, hn⟩ : ∃ n, s.size = n := ⟨_, rfl⟩
  have HB0 := Lib.hid (HX.out.trans hB3)
  have HR0 : Hid (LRow w3 w.heap.size A9 (n + 1 + 0) cap9 (bytesV (bOf s ++ [128] ++ List.replicate 0 0))) := Lib.hid (hown3.congr (by omega) (by rw [List.replicate_zero, List.append_nil, bytesV_append]; rfl))
  rw [hn] at hs HZ ⊢
  have HN := Lib.hid hn
  clear hown3 hB3 hn
  go_loopw [3] (fun v wr => ∃ (j cap1 : Nat) (A : Option Addr), j ≤ z ∧ v = .slice A (n + 1 + j) cap1 ∧ Hid (LRow wr w.heap.size A (n + 1 + j) cap1 (bytesV (bOf s ++ [128] ++ List.replicate j 0))) ∧ Hid (Below w.heap.size w wr)) (fun v _ => match v with | .slice _ m _ => n + 100 - m | _ => 0)
  case atStart => exact ⟨0, cap9, A9, by omega, rfl, HR0, HB0⟩
  case round =>
    obtain ⟨j, cap, A, hj, rfl, HO, HB⟩ := hrel
    have hwr := HB.out.size
    by_cases hlt : j < z
    · have ht : ((((n : Int) + 1 + (j : Int))) % 64 != 56) = true := by have := HZ.out; simp; omega
      go_wp2_with (at_builtin; refine wpList_append_lrow rfl (.tmp 15) (.tmp 16) 149 rfl w.heap.size 5 i0 (.int .u8 0) 1 Tryz.underlying149 hi hz0 hz1 hz2 rfl A (n + 1 + j) cap _ rfl (HO.out.alloc _) wr.heap.size 0 1 _ rfl (news1 _ _ _) rfl (by unfold maxLen; omega) (by omega) (by have := HB.out.size; simp; omega) ?_; intro A9 cap9 w3 hown3 hB3)
      have hO3 := Lib.hid (hown3.congr (show _ = n + 1 + (j + 1) by omega) (show _ = bytesV (bOf s ++ [128] ++ List.replicate (j + 1) 0) by rw [List.replicate_succ', ← List.append_assoc, bytesV_append (_ ++ _ ++ _)]; rfl))
      have hB3 := Lib.hid ((HB.out.alloc hwr _).trans hB3)
      clear ht
      go_roundw
      case rel => exact ⟨j + 1, cap9, A9, by omega, rfl, hO3, hB3⟩
      case measure => simp; omega
    · obtain rfl : j = z := by omega
      have ht : ((((n : Int) + 1 + (j : Int))) % 64 != 56) = false := by have := HZ.out; simp; omega
      have HO1 := Lib.hid (HO.out.congr (show _ = n + 1 + j + 0 by omega) (show _ = bytesV (bOf s ++ [128] ++ List.replicate j 0 ++ (lenB n).take 0) by simp))
      have HBB := Lib.hid HB.out
      have hs' := HS9.out
      go_wp2
      rw [HN.out]
      clear hs'
      clear ht
      go_loopw [3, 5] (fun v i wr => ∃ (t cap1 : Nat) (A : Option Addr), t ≤ 8 ∧ v = .slice A (n + 1 + j + t) cap1 ∧ i = .int .i64 (t : Int) ∧ Hid (LRow wr w.heap.size A (n + 1 + j + t) cap1 (bytesV (bOf s ++ [128] ++ List.replicate j 0 ++ (lenB n).take t))) ∧ Hid (Below w.heap.size w wr)) (fun v _ _ => match v with | .slice _ m _ => n + 200 - m | _ => 0)
      case atStart => exact ⟨0, cap, A, by omega, rfl, rfl, HO1, HBB⟩
      case round =>
        obtain ⟨t, cap, A, ht8, rfl, rfl, HO, HB⟩ := hrel
        have hwr := HB.out.size
        by_cases hlt : t < 8
        · have i1 : (t : Int) < 8 := by omega
          have i0' : (0 : Int) ≤ t := by omega
          have HLc : Hid ((lenB n).take (t + 1) = (lenB n).take t ++ [UInt8.ofNat ((n * 8) / 2 ^ (56 - 8 * t) % 256)]) := Lib.hid (lenB_take n t hlt)
          have HLb : Hid (.int .u8 ((n : Int) * 8 / 2 ^ (56 - 8 * t) % 256) = byteV (UInt8.ofNat ((n * 8) / 2 ^ (56 - 8 * t) % 256))) := Lib.hid (lenB_int n _)
          go_wp2_with (at_builtin; refine wpList_append_lrow rfl (.tmp 26) (.tmp 33) 149 rfl w.heap.size 5 i0 (.int .u8 0) 1 Tryz.underlying149 hi hz0 hz1 hz2 rfl A (n + 1 + j + t) cap _ rfl (HO.out.alloc _) wr.heap.size 0 1 _ rfl (news1 _ _ _) rfl (by unfold maxLen; omega) (by omega) (by have := HB.out.size; simp; omega) ?_; intro A9 cap9 w3 hown3 hB3)
          have hO3 := Lib.hid (hown3.congr (show _ = n + 1 + j + (t + 1) by omega) (show _ = bytesV (bOf s ++ [128] ++ List.replicate j 0 ++ (lenB n).take (t + 1)) by rw [HLb.out, HLc.out]; simp [bytesV]))
          have hB3 := Lib.hid ((HB.out.alloc hwr _).trans hB3)
          clear hown3
          refine ⟨⟨t + 1, cap9, A9, by omega, rfl, by go_num, hO3, hB3⟩, ?_⟩
          simp; omega
        · obtain rfl : t = 8 := by omega
          have HTl : Hid (bOf s ++ [128] ++ List.replicate j 0 ++ (lenB n).take 8 = bOf s ++ tailB n) := Lib.hid (by unfold tailB; rw [HZ.out, List.take_of_length_le (by simp [lenB])]; simp)
          have HO8 := Lib.hid (HO.out.congr (show _ = (bOf s ++ tailB n).length by rw [← HTl.out]; simp [lenB, bOf_length, HN.out]; omega) (show _ = bytesV (bOf s ++ tailB n) by rw [HTl.out]))
          have HLn : Hid (n + 1 + j + 8 = (bOf s ++ tailB n).length) := Lib.hid (by rw [← HTl.out]; simp [lenB, bOf_length, HN.out]; omega)
          go_wp2
          go_ret
          rw [HN.out]
          exact ⟨A, cap, by rw [HLn.out]; rfl, HO8.out, HB.out⟩
end Go.Proofs.YtchfbdbgmlcfiaaGreatDoor
