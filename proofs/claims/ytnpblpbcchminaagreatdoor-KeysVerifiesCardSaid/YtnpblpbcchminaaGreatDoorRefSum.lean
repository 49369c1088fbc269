import Derived.Test.YtnpblpbcchminaaGreatDoorHashAny
import Derived.Test.YtnpblpbcchminaaGreatDoorRefBlock
import Derived.Great.BuildSlice
import Derived.Test.YtnpblpbcchminaaGreatDoorShaDig
import Derived.ArgAppend
import Derived.Lib.EndianMore
import Derived.Test.YtnpblpbcchminaaGreatDoorShaSum
import Derived.StillTailTactics
/- ref04.table, ref04.start. -/
namespace Go.Proofs.YtnpblpbcchminaaGreatDoor
open Go.ChangeShapes Go.WideShapes Go.ChangeAt Go.RowKit
set_option linter.unusedVariables false
set_option maxRecDepth 100000 in
set_option maxHeartbeats 4000000 in
theorem start_any (w : World) :
    Calls Tryz.prog 192 #[] w fun ev w' => ev = .returned (.agg (intsV shaH0)) ∧ Below w.heap.size w w' := by
  go_enter Tryz.func192, Tryz.ntmps192
  go_wp2_with fail
  refine bodyPost_ret (v := .agg (intsV shaH0)) (results_cell_row rfl _ _ w.heap.size 272 (intsV shaH0) (0, 0) _ rfl (heap_alloc_new _ _) Tryz.underlying272 rfl (by kernel_rfl)) rfl ⟨rfl, (Below.refl _ _).alloc (Nat.le_refl _) _⟩
theorem shaK_len : shaK.length = 64 := rfl
set_option maxRecDepth 100000 in
set_option maxHeartbeats 4000000 in
theorem table_any (w : World) :
    Calls Tryz.prog 191 #[] w fun ev w' => ev = .returned (.agg (intsV shaK)) ∧ Below w.heap.size w w' := by
  have hP : (Tryz.prog.info? 269).map (·.size) = some 1 := by kernel_rfl
  have hZ : ((Tryz.prog.info? 270).bind (·.zero)).map (·.cells.size) = some shaK.length := by rw [shaK_len]; kernel_rfl
  have hI0 : (Tryz.prog.info? 270).map (·.size) = some (intsV shaK).size := by rw [intsV_size, shaK_len]; kernel_rfl
  have HX := Lib.hid (And.intro hP (And.intro hZ hI0))
  have ho := intsV_one shaK
  have hl := shaK_len
  have hsz := intsV_size shaK
  have HO := Lib.hid ho
  have hBa : Hid (Below w.heap.size w (w.alloc (.cells (List.replicate 64 (Value.int .u32 0)).toArray 270))) := Lib.hid ((Below.refl _ _).alloc (Nat.le_refl _) _)
  have hRa : Hid (IRow (w.alloc (.cells (List.replicate 64 (Value.int .u32 0)).toArray 270)) w.heap.size .u32 270 (List.replicate 64 0)) := Lib.hid (irow_new _ _ _ _ (by simp))
  obtain ⟨wa, hwa⟩ : ∃ wa, w.alloc (.cells (List.replicate 64 (Value.int .u32 0)).toArray 270) = wa := ⟨_, rfl⟩
  rw [hwa] at hBa hRa
  simp only [List.replicate, List.toArray] at hwa
  have HS : Hid (((List.replicate 64 (0 : Int)).map (Value.int .u32)).toArray.size = (intsV shaK).size) := Lib.hid (by rw [hsz, hl]; simp)
  clear hP hZ hI0 ho hl hsz
  go_enter Tryz.func191, Tryz.ntmps191
  go_wp2_with (first | (refine wpList_buildFlatArrTo rfl 270 269 64 _ rfl .u32 shaK _ rfl Tryz.underlying270 HX.out.1 HX.out.2.1 rfl ?_) | (refine wpList_store_row rfl 270 _ _ rfl w.heap.size (intsV shaK) rfl rfl 270 _ hRa.out HX.out.2.2 HS.out HO.out ?_))
  refine bodyPost_ret (v := .agg (intsV shaK)) (results_cell_row rfl _ _ w.heap.size 270 (intsV shaK) (0, 0) _ rfl (setRow_heap _ _ _ _ _ _ hRa.out) Tryz.underlying270 rfl HX.out.2.2) rfl ⟨rfl, below_setRow hBa.out _ _ (Nat.le_refl _)⟩
end Go.Proofs.YtnpblpbcchminaaGreatDoor

/- append of one cell onto a row that may bear a mark behind its end (what a conversion laid). No program in sight. -/
namespace Go.Proofs.YtnpblpbcchminaaGreatDoor
open Go.ChangeShapes Go.WideShapes Go.ChangeAt Go.RowKit
set_option linter.unusedVariables false
/-- a row of one-cell elements in a block at or behind base: the cells xs, and spare cells that may be written -/
def LRow (w : World) (base : Nat) (A : Option Addr) (n cap : Nat) (xs : List Value) : Prop :=
  xs.length = n ∧ n ≤ cap ∧ cap ≤ maxLen ∧ ∃ g, A = some ⟨g, 0, none⟩ ∧ base ≤ g ∧ g < w.heap.size ∧ w.rangeAt g 0 xs ∧
    ∀ j, n ≤ j → j < cap → (w.cell? ⟨g, j, none⟩).isSome = true ∧ w.frozen? ⟨g, j, none⟩ = false
theorem LRow.below {w w' : World} {base n cap B : Nat} {A : Option Addr} {xs : List Value} (h : LRow w base A n cap xs) (hb : Below B w w') (hB : w.heap.size ≤ B) : LRow w' base A n cap xs := by
  obtain ⟨h1, h2, h3, g, h4, h5, h6, h7, h8⟩ := h
  have e := hb.block g (by omega)
  exact ⟨h1, h2, h3, g, h4, h5, Nat.lt_of_lt_of_le h6 hb.size, fun j v hj => cell_block e (h7 j v hj), fun j a b => ⟨by rw [World.cell?_of_block (a := ⟨g, j, none⟩) e]; exact (h8 j a b).1, (World.frozen?_of_block (a := ⟨g, j, none⟩) e).trans (h8 j a b).2⟩⟩
theorem LRow.alloc {w : World} {base n cap : Nat} {A : Option Addr} {xs : List Value} (h : LRow w base A n cap xs) (o : Obj) : LRow (w.alloc o) base A n cap xs := h.below ((Below.refl _ _).alloc (Nat.le_refl _) o) (Nat.le_refl _)
theorem LRow.congr {w : World} {base n m cap : Nat} {A : Option Addr} {xs ys : List Value} (h : LRow w base A n cap xs) (e : n = m) (f : xs = ys) : LRow w base A m cap ys := e ▸ f ▸ h
theorem own_lrow {w : World} {base : Nat} {e : TypeId} {A : Option Addr} {n cap : Nat} {xs : List Value} (h : w.ownsRow base e 1 (.slice A n cap) n xs) (h0 : 0 < n) : LRow w base A n cap xs := by
  rcases h with ⟨hl, ⟨q, h1⟩ | ⟨g, c, cur, h1, h2, h3, h4, h5, h6, h7⟩⟩
  · omega
  · cases h1
    rw [Nat.mul_one] at hl h6 h7
    refine ⟨hl, h4, h5, g, rfl, h2, (Array.getElem?_eq_some_iff.1 h3).1, fun j v hj => ?_, fun j a b => ⟨?_, frozen_of_row w g j _ e h3⟩⟩
    · rw [Nat.zero_add, cell_of_row w g j _ e (0, 0) h3]
      rw [← h7] at hj
      have hjn : j < n := by have := (List.getElem?_eq_some_iff.1 hj).1; rw [List.length_take] at this; omega
      rw [List.getElem?_take_of_lt hjn] at hj
      simpa using hj
    · rw [cell_of_row w g j _ e (0, 0) h3, Array.getElem?_eq_getElem (by omega)]; rfl
theorem wpList_append_lrow {P : Program} {w : World} {ops : Array Oper} {rest : List Oper} {o : Oper} {a : Act} {Q : Exit → Act → World → Prop} (hg : o.guard = none) (s x : Operand) (t : TypeId)
    (ho : o.op = Op.call { callee := Callee.builtin Builtin.append, args := #[s, x], argTypes := #[t, t] })
    (base : Nat) (e : TypeId) (i : TypeInfo) (z : Value) (bytes : Nat) (ht : P.underlying t = some (.slice e)) (hi : P.info? e = some i) (hz : i.zero = some z)
    (hsize : i.size = 1) (hby : i.bytes = bytes) (hzs : z.cells.size = 1)
    (A : Option Addr) (n cap : Nat) (xs : List Value) (hs : a.eval s = .slice A n cap) (hr : LRow w base A n cap xs)
    (b o2 c : Nat) (u : Value) (hx : a.eval x = .slice (some ⟨b, o2, none⟩) 1 c) (hu : w.cell? ⟨b, o2, none⟩ = some u) (h1 : u.oneCell' = true)
    (h63 : n + 1 ≤ maxLen) (hbytes : (n + 1) * bytes ≤ 140737488355328) (hbase : base ≤ w.heap.size)
    (h : ∀ A cap w', LRow w' base A (n + 1) cap (xs ++ [u]) → Below base w w' → wpList P ops Q rest (a.put o.dst (.slice A (n + 1) cap)) w') : wpList P ops Q (o :: rest) a w := by
  obtain ⟨hl, hc, hm, g, rfl, hg1, hg2, hg3, hg4⟩ := hr
  have hnews : ∀ j v, [u][j]? = some v → w.cell? ((⟨b, o2, none⟩ : Addr).add j) = some v := by
    intro j v hj
    match j, hj with
    | 0, hj => rw [Addr.add_mid]; simp at hj; subst hj; simpa using hu
  refine wpList_append_arg w hg s x t ho e i z 1 bytes ht hi hz hsize hby hzs (by decide) g 0 n cap xs hs (by omega) (fun j v hj => hg3 j v hj) ⟨b, o2, none⟩ 1 c [u] hx rfl hnews (by simpa using h1) ?_ h63 hbytes ?_ ?_
  · intro hle j hj
    obtain rfl : j = 0 := by simpa using hj
    rw [show 0 + n * 1 + 0 = n by omega]
    exact hg4 n (Nat.le_refl _) (by omega)
  · intro hle
    rw [show 0 + n * 1 = n by omega]
    refine h _ _ _ ⟨by simp [hl], hle, hm, g, rfl, hg1, ?_, ?_, ?_⟩ ?_
    · show g < (w.setCell ⟨g, n, none⟩ u).heap.size
      simpa using hg2
    · show (w.setCell ⟨g, n, none⟩ u).rangeAt g 0 (xs ++ [u])
      intro j v hj
      rw [Nat.zero_add]
      by_cases hjn : j < xs.length
      · rw [List.getElem?_append_left hjn] at hj
        rw [World.cell?_setCell_other w ⟨g, n, none⟩ ⟨g, j, none⟩ u (by intro q; injection q; omega)]
        have := hg3 j v hj
        rwa [Nat.zero_add] at this
      · rw [List.getElem?_append_right (by omega)] at hj
        obtain rfl : j = n := by have := (List.getElem?_eq_some_iff.1 hj).1; simp at this; omega
        simp [hl] at hj
        subst hj
        have hs1 := (hg4 j (Nat.le_refl _) (by omega)).1
        have := World.cell?_setCells_in g [u] j w (fun k hk => by (obtain rfl : k = 0 := by simp at hk; exact hk); rw [Nat.add_zero]; exact hs1) 0 (by simp)
        simpa [World.setCells] using this
    · intro j a2 b2
      have h4 := hg4 j (by omega) b2
      show ((w.setCell ⟨g, n, none⟩ u).cell? ⟨g, j, none⟩).isSome = true ∧ (w.setCell ⟨g, n, none⟩ u).frozen? ⟨g, j, none⟩ = false
      rw [World.cell?_setCell_other w ⟨g, n, none⟩ ⟨g, j, none⟩ u (by intro q; injection q; omega), World.frozen?_setCell]
      exact h4
    · exact Lib.below_setCells_w hg1 _ _ _
  · intro hgt v' w' hown hgrow
    obtain ⟨A', c', rfl, hc'⟩ := own_shape hown
    have hb : Below base w w' := ⟨hgrow.os, hgrow.tape, hgrow.output, hgrow.size, fun k hk => hgrow.block k (by omega) (by simp)⟩
    have h2 := own_lrow hown (by omega)
    obtain ⟨q1, q2, q3, g', q4, q5, q6⟩ := h2
    exact h _ _ _ ⟨q1, q2, q3, g', q4, by omega, q6⟩ hb
end Go.Proofs.YtnpblpbcchminaaGreatDoor

/- ref04.padded: the text's bytes, padded. -/
namespace Go.Proofs.YtnpblpbcchminaaGreatDoor
open Go.ChangeShapes Go.WideShapes Go.ChangeAt Go.RowKit
set_option linter.unusedVariables false
theorem news1 (w : World) (u : Value) (t : TypeId) : (w.alloc (.cells #[u] t)).cell? ⟨w.heap.size, 0, none⟩ = some u := by rw [World.cell?_alloc_mark]; rfl
theorem bytesRow_lrow (w : World) (s : ByteArray) (cp B : Nat) (h1 : s.size ≤ cp) (h2 : cp ≤ maxLen) (hB : B ≤ w.heap.size) : LRow (w.alloc (.cells (bytesRow s cp) 5 ((bytesRow s cp).size, (bytesRow s cp).size + 1))) B (some ⟨w.heap.size, 0, none⟩) s.size cp (bytesV (bOf s)) := by
  have hsz : (bytesRow s cp).size = cp := by simp [bytesRow]; exact Nat.add_sub_cancel' h1
  rw [hsz]
  have hh : (w.alloc (.cells (bytesRow s cp) 5 (cp, cp + 1))).heap[w.heap.size]? = some (.cells (bytesRow s cp) 5 (cp, cp + 1)) := heap_alloc_new w _
  refine ⟨by rw [bytesV_length, bOf_length], h1, h2, _, rfl, hB, ?_, bytesRow_range w s cp _, fun j a b => ⟨?_, ?_⟩⟩
  · exact (Array.getElem?_eq_some_iff.1 hh).1
  · rw [cell_of_row _ _ j _ 5 _ hh, Array.getElem?_eq_getElem (by omega)]; rfl
  · simp only [World.frozen?, hh]; simp; omega
theorem info_u8p : (Tryz.prog.info? 5).map (fun i => (i.zero, i.size, i.bytes)) = some (some (.int .u8 0), 1, 1) := by kernel_rfl
set_option maxRecDepth 100000 in
set_option maxHeartbeats 4000000 in
theorem padded_any (s : ByteArray) (w : World) (hs : s.size ≤ 100000000000) :
    Calls Tryz.prog 190 #[.string s] w fun ev w' => ∃ A cap, ev = .returned (.slice A (bOf s ++ tailB s.size).length cap) ∧ LRow w' w.heap.size A (bOf s ++ tailB s.size).length cap (bytesV (bOf s ++ tailB s.size)) ∧ Below w.heap.size w w' := by
  have kb := fun (w : World) => run_bytes_of_string (P := Tryz.prog) w 9 138 5 s Tryz.underlying9 Tryz.underlying138 Tryz.underlying5
  obtain ⟨i0, hi, hz0, hz1, hz2⟩ := info_parts info_u8p
  have hc1 : Hid (s.size ≤ grownCap w s.size 0 5) := Lib.hid (grownCap_ge _ _ _ _)
  have hc2 : Hid (grownCap w s.size 0 5 ≤ maxLen) := Lib.hid (grownCap_le_maxLen _ _ _ _ (by unfold maxLen; omega))
  have HL0 := bytesRow_lrow w s _ _ hc1.out hc2.out (Nat.le_refl _)
  have HL := Lib.hid ((HL0.alloc (.cells #[.int .u8 128] 5)).below (Below.drew (Below.refl _ _)) (Nat.le_refl _))
  have HNW := Lib.hid (cell_below (Below.drew (Below.refl _ _)) (news1 (w.alloc (.cells (bytesRow s (grownCap w s.size 0 5)) 5 ((bytesRow s (grownCap w s.size 0 5)).size, (bytesRow s (grownCap w s.size 0 5)).size + 1))) (.int .u8 128) 5) (Nat.lt_succ_self _))
  have HX : Hid (Below w.heap.size w ((w.alloc (.cells (bytesRow s (grownCap w s.size 0 5)) 5 ((bytesRow s (grownCap w s.size 0 5)).size, (bytesRow s (grownCap w s.size 0 5)).size + 1))).alloc (.cells #[.int .u8 128] 5)).drew) := Lib.hid (((((Below.refl _ _).alloc (Nat.le_refl _) _).alloc (by simp) _).drew))
  obtain ⟨z, hz⟩ : ∃ z, (119 - s.size % 64) % 64 = z := ⟨_, rfl⟩
  have hz64 : z < 64 := by omega
  have HZ := Lib.hid hz
  have HS9 := Lib.hid hs
  clear hz HL0
  go_enter Tryz.func190, Tryz.ntmps190
  go_wp2_with (at_builtin; refine wpList_append_lrow rfl (.tmp 8) (.tmp 9) 138 rfl w.heap.size 5 i0 (.int .u8 0) 1 Tryz.underlying138 hi hz0 hz1 hz2 rfl (some ⟨w.heap.size, 0, none⟩) s.size (grownCap w s.size 0 5) _ rfl HL.out (w.heap.size + 1) 0 1 (.int .u8 128) rfl (by have h := HNW.out; simp only [World.size_alloc] at h; exact h) rfl (by unfold maxLen; omega) (by omega) (by simp; omega) ?_; intro A9 cap9 w3 hown3 hB3)
  obtain ⟨n, hn⟩ : ∃ n, s.size = n := ⟨_, rfl⟩
  have HB0 := Lib.hid (HX.out.trans hB3)
  have HR0 : Hid (LRow w3 w.heap.size A9 (n + 1 + 0) cap9 (bytesV (bOf s ++ [128] ++ List.replicate 0 0))) := Lib.hid (hown3.congr (by omega) (by rw [List.replicate_zero, List.append_nil, bytesV_append]; rfl))
  rw [hn] at hs HZ ⊢
  have HN := Lib.hid hn
  clear hown3 hB3 hn
  go_loopw [3] (fun v wr => ∃ (j cap1 : Nat) (A : Option Addr), j ≤ z ∧ v = .slice A (n + 1 + j) cap1 ∧ Hid (LRow wr w.heap.size A (n + 1 + j) cap1 (bytesV (bOf s ++ [128] ++ List.replicate j 0))) ∧ Hid (Below w.heap.size w wr)) (fun v _ => match v with | .slice _ m _ => n + 100 - m | _ => 0)
  case atStart => exact ⟨0, cap9, A9, by omega, rfl, HR0, HB0⟩
  case round =>
    obtain ⟨j, cap, A, hj, rfl, HO, HB⟩ := hrel
    have hwr := HB.out.size
    by_cases hlt : j < z
    · have ht : ((((n : Int) + 1 + (j : Int))) % 64 != 56) = true := by have := HZ.out; simp; omega
      go_wp2_with (at_builtin; refine wpList_append_lrow rfl (.tmp 15) (.tmp 16) 138 rfl w.heap.size 5 i0 (.int .u8 0) 1 Tryz.underlying138 hi hz0 hz1 hz2 rfl A (n + 1 + j) cap _ rfl (HO.out.alloc _) wr.heap.size 0 1 _ rfl (news1 _ _ _) rfl (by unfold maxLen; omega) (by omega) (by have := HB.out.size; simp; omega) ?_; intro A9 cap9 w3 hown3 hB3)
      have hO3 := Lib.hid (hown3.congr (show _ = n + 1 + (j + 1) by omega) (show _ = bytesV (bOf s ++ [128] ++ List.replicate (j + 1) 0) by rw [List.replicate_succ', ← List.append_assoc, bytesV_append (_ ++ _ ++ _)]; rfl))
      have hB3 := Lib.hid ((HB.out.alloc hwr _).trans hB3)
      clear ht
      go_roundw
      case rel => exact ⟨j + 1, cap9, A9, by omega, rfl, hO3, hB3⟩
      case measure => simp; omega
    · obtain rfl : j = z := by omega
      have ht : ((((n : Int) + 1 + (j : Int))) % 64 != 56) = false := by have := HZ.out; simp; omega
      have HO1 := Lib.hid (HO.out.congr (show _ = n + 1 + j + 0 by omega) (show _ = bytesV (bOf s ++ [128] ++ List.replicate j 0 ++ (lenB n).take 0) by simp))
      have HBB := Lib.hid HB.out
      have hs' := HS9.out
      go_wp2
      rw [HN.out]
      clear hs'
      clear ht
      go_loopw [3, 5] (fun v i wr => ∃ (t cap1 : Nat) (A : Option Addr), t ≤ 8 ∧ v = .slice A (n + 1 + j + t) cap1 ∧ i = .int .i64 (t : Int) ∧ Hid (LRow wr w.heap.size A (n + 1 + j + t) cap1 (bytesV (bOf s ++ [128] ++ List.replicate j 0 ++ (lenB n).take t))) ∧ Hid (Below w.heap.size w wr)) (fun v _ _ => match v with | .slice _ m _ => n + 200 - m | _ => 0)
      case atStart => exact ⟨0, cap, A, by omega, rfl, rfl, HO1, HBB⟩
      case round =>
        obtain ⟨t, cap, A, ht8, rfl, rfl, HO, HB⟩ := hrel
        have hwr := HB.out.size
        by_cases hlt : t < 8
        · have i1 : (t : Int) < 8 := by omega
          have i0' : (0 : Int) ≤ t := by omega
          have HLc : Hid ((lenB n).take (t + 1) = (lenB n).take t ++ [UInt8.ofNat ((n * 8) / 2 ^ (56 - 8 * t) % 256)]) := Lib.hid (lenB_take n t hlt)
          have HLb : Hid (.int .u8 ((n : Int) * 8 / 2 ^ (56 - 8 * t) % 256) = byteV (UInt8.ofNat ((n * 8) / 2 ^ (56 - 8 * t) % 256))) := Lib.hid (lenB_int n _)
          go_wp2_with (at_builtin; refine wpList_append_lrow rfl (.tmp 26) (.tmp 33) 138 rfl w.heap.size 5 i0 (.int .u8 0) 1 Tryz.underlying138 hi hz0 hz1 hz2 rfl A (n + 1 + j + t) cap _ rfl (HO.out.alloc _) wr.heap.size 0 1 _ rfl (news1 _ _ _) rfl (by unfold maxLen; omega) (by omega) (by have := HB.out.size; simp; omega) ?_; intro A9 cap9 w3 hown3 hB3)
          have hO3 := Lib.hid (hown3.congr (show _ = n + 1 + j + (t + 1) by omega) (show _ = bytesV (bOf s ++ [128] ++ List.replicate j 0 ++ (lenB n).take (t + 1)) by rw [HLb.out, HLc.out]; simp [bytesV]))
          have hB3 := Lib.hid ((HB.out.alloc hwr _).trans hB3)
          clear hown3
          refine ⟨⟨t + 1, cap9, A9, by omega, rfl, by go_num, hO3, hB3⟩, ?_⟩
          simp; omega
        · obtain rfl : t = 8 := by omega
          have HTl : Hid (bOf s ++ [128] ++ List.replicate j 0 ++ (lenB n).take 8 = bOf s ++ tailB n) := Lib.hid (by unfold tailB; rw [HZ.out, List.take_of_length_le (by simp [lenB])]; simp)
          have HO8 := Lib.hid (HO.out.congr (show _ = (bOf s ++ tailB n).length by rw [← HTl.out]; simp [lenB, bOf_length, HN.out]; omega) (show _ = bytesV (bOf s ++ tailB n) by rw [HTl.out]))
          have HLn : Hid (n + 1 + j + 8 = (bOf s ++ tailB n).length) := Lib.hid (by rw [← HTl.out]; simp [lenB, bOf_length, HN.out]; omega)
          go_wp2
          go_ret
          rw [HN.out]
          exact ⟨A, cap, by rw [HLn.out]; rfl, HO8.out, HB.out⟩
end Go.Proofs.YtnpblpbcchminaaGreatDoor

/- ref04.Sum: SHA-256 of a text's bytes. -/
namespace Go.Proofs.YtnpblpbcchminaaGreatDoor
open Go.ChangeShapes Go.WideShapes Go.ChangeAt Go.RowKit
set_option linter.unusedVariables false
theorem tailB_short (n : Nat) : (tailB n).length ≤ 128 := by simp [tailB, lenB]; omega
theorem blks_take (q : Nat) (H : List Int) (X : List UInt8) (h : 64 * q ≤ X.length) : blks q H X = blks q H (X.take (64 * q)) := by
  conv => lhs; rw [← List.take_append_drop (64 * q) X]
  have := blks_append q 0 H (X.take (64 * q)) (X.drop (64 * q)) (by rw [List.length_take]; omega)
  rw [Nat.add_zero] at this
  rw [this]; rfl
theorem blks_next (q : Nat) (H : List Int) (X : List UInt8) (h : 64 * q + 64 ≤ X.length) : blks (q + 1) H X = blkL (blks q H X) ((X.drop (64 * q)).take 64) := by
  rw [blks_take (q + 1) H X (by omega), blks_take q H X (by omega), ← blks_snoc q H (X.take (64 * q)) ((X.drop (64 * q)).take 64) (by rw [List.length_take]; omega) (by rw [List.length_take, List.length_drop]; omega)]
  congr 1
  rw [show 64 * (q + 1) = 64 * q + 64 by omega, List.take_add]
theorem wpStill_load_row {P : Program} {ops : Array Oper} {rest : List Oper} {o : Oper} {a : Act} {w : World} {Q : Act → Prop} (hgd : o.guard = none) (ty : TypeId) (x : Operand) (ho : o.op = .load ty x)
    (g : Nat) (hx : a.eval x = .pointer (some ⟨g, 0, none⟩)) (t : TypeId) (cs : Array Value) (fr : Nat × Nat) (d : TypeDesc) (hg : w.heap[g]? = some (.cells cs t fr))
    (hu : P.underlying ty = some d) (hd : (match d with | .struct _ | .array _ _ => true | _ => false) = true) (hi : (P.info? ty).map (·.size) = some cs.size)
    (h : wpStill P ops w Q rest (a.put o.dst (.agg cs))) : wpStill P ops w Q (o :: rest) a := wpStill_step fun K hK => by
  rw [if_pos (by simp [Region.wanted, hgd])]
  unfold Oper.still execOp
  simp only [ho, hx, Instr.loadAt, Instr.sureAddr, Sem.run_bind, Sem.run_pure, Result.andThen_ok, run_loadVar_row w g t ty cs fr d hg hu hd hi, Oper.stillUpon_value]
  exact hK _ h
def brow (F : List Int) (t : Nat) : List Int := F.take t ++ List.replicate (32 - t) 0
theorem brow_set (F : List Int) (t : Nat) (x : Int) (h : F.length = 32) (ht : t < 32) (hx : F[t]? = some x) : (brow F t).set t x = brow F (t + 1) := by
  have hl : (F.take t).length = t := by rw [List.length_take]; omega
  unfold brow
  rw [List.set_append_right _ _ (by omega), hl, Nat.sub_self, show 32 - t = (32 - (t + 1)) + 1 by omega, List.replicate_succ, List.set_cons_zero, List.take_add_one, hx]
  simp
theorem ints4_at : ∀ (l : List Int) (t : Nat) (x : Int), l[t / 4]? = some x → (l.flatMap ints4)[t]? = some (x / 2 ^ (24 - 8 * (t % 4)) % 256)
  | [], t, x, h => by simp at h
  | y :: l, t, x, h => by
    rw [List.flatMap_cons]
    by_cases ht : t < 4
    · rw [show t / 4 = 0 by omega] at h
      simp at h; subst h
      rw [List.getElem?_append_left (by simp [ints4]; omega)]
      match t, ht with
      | 0, _ => rfl
      | 1, _ => rfl
      | 2, _ => rfl
      | 3, _ => show some (y % 256) = some (y / 2 ^ 0 % 256); simp
    · rw [List.getElem?_append_right (by simp [ints4]; omega)]
      have := ints4_at l (t - 4) x (by rw [show t / 4 = (t - 4) / 4 + 1 by omega] at h; simpa using h)
      rw [show (t - 4) % 4 = t % 4 by omega] at this
      simpa [ints4] using this
set_option maxRecDepth 100000 in
set_option maxHeartbeats 4000000 in
theorem refsum_any (s : ByteArray) (w : World) (hs : s.size ≤ 100000000000) :
    Calls Tryz.prog 130 #[.string s] w fun ev w' => ev = .returned (hv (shaB (bOf s))) ∧ Below w.heap.size w w' := by
  have hBa : Hid (Below w.heap.size w (w.alloc (.cells (List.replicate 32 (Value.int .u8 0)).toArray 23))) := Lib.hid ((Below.refl _ _).alloc (Nat.le_refl _) _)
  have hRa : Hid (IRow (w.alloc (.cells (List.replicate 32 (Value.int .u8 0)).toArray 23)) w.heap.size .u8 23 (List.replicate 32 0)) := Lib.hid (irow_new _ _ _ _ (by simp))
  obtain ⟨wa, hwa⟩ : ∃ wa, w.alloc (.cells (List.replicate 32 (Value.int .u8 0)).toArray 23) = wa := ⟨_, rfl⟩
  have hsa : w.heap.size + 1 = wa.heap.size := by rw [← hwa]; simp
  rw [hwa] at hBa hRa
  simp only [List.replicate, List.toArray] at hwa
  have HSA := Lib.hid hsa
  have HS0 := Lib.hid hs
  clear hs hsa
  go_enter Tryz.func130, Tryz.ntmps130
  go_wp2_with fail
  refine (padded_any s wa HS0.out).mono ?_
  rintro ev w1 ⟨A, cap, rfl, ⟨hxl, hxc, hxm, g, rfl, hg1, hg2, hg3, _⟩, hB1⟩
  obtain ⟨X, hX⟩ : ∃ X, bOf s ++ tailB s.size = X := ⟨_, rfl⟩
  obtain ⟨L, hL⟩ : ∃ L, X.length = L := ⟨_, rfl⟩
  rw [hX] at hxl hxc hg3 ⊢
  rw [hL] at hxc ⊢
  have hm0 : Hid (L = 64 * (L / 64) ∧ L ≤ 100000001000) := Lib.hid (by have h := tailB_length s.size; rw [← hL, ← hX, List.length_append, bOf_length]; have h2 := tailB_short s.size; have := HS0.out; omega)
  obtain ⟨m, hm⟩ : ∃ m, L / 64 = m := ⟨_, rfl⟩
  rw [hm] at hm0
  obtain ⟨hL64, hLM⟩ := hm0.out
  subst hL64
  have HX := Lib.hid hX
  have HL := Lib.hid hL
  have HG := Lib.hid hg3
  have HCM := Lib.hid (show cap ≤ 9223372036854775807 by unfold maxLen at hxm; exact hxm)
  have HB1 := Lib.hid hB1
  have HS1 := Lib.hid (And.intro hB1.size hg2)
  have HM := Lib.hid hm
  clear hX hL hm hxl hxm hg3 hB1 hwa
  go_wp2_with fail
  refine (table_any w1).mono ?_
  rintro ev w2 ⟨rfl, hB2⟩
  have HS2 := Lib.hid hB2.size
  obtain ⟨kv, hkv⟩ : ∃ kv, intsV shaK = kv := ⟨_, rfl⟩
  have HZ1 : Hid (kv.size = 64) := Lib.hid (by rw [← hkv, intsV_size]; rfl)
  have HI1 : Hid ((Tryz.prog.info? 270).map (·.size) = some kv.size) := Lib.hid (by rw [HZ1.out]; kernel_rfl)
  have HO1 : Hid (kv.all (·.oneCell') = true) := Lib.hid (by rw [← hkv]; exact intsV_one _)
  have HB2 := Lib.hid hB2
  rw [hkv]
  have HKV := Lib.hid hkv
  clear hkv hB2
  go_wp2_with (refine wpList_store_row rfl 270 _ _ rfl w2.heap.size kv rfl rfl 270 _ (heap_alloc_new _ _) HI1.out (by rw [HZ1.out]; rfl) HO1.out ?_)
  refine (start_any _).mono ?_
  rintro ev w4 ⟨rfl, hB4⟩
  obtain ⟨hv0, hhv⟩ : ∃ hv0, intsV shaH0 = hv0 := ⟨_, rfl⟩
  have HZ2 : Hid (hv0.size = 8) := Lib.hid (by rw [← hhv, intsV_size]; rfl)
  have HI2 : Hid ((Tryz.prog.info? 272).map (·.size) = some hv0.size) := Lib.hid (by rw [HZ2.out]; kernel_rfl)
  have HO2 : Hid (hv0.all (·.oneCell') = true) := Lib.hid (by rw [← hhv]; exact intsV_one _)
  have HB4 : Hid (Below (w2.heap.size + 1) ((w2.alloc (.cells (List.replicate 64 (Value.int .u32 0)).toArray 270)).setRow w2.heap.size kv) w4) := Lib.hid (by have h := hB4; rw [setRow_size, World.size_alloc] at h; exact h)
  have HT4 : Hid (w4.heap[w2.heap.size]? = some (.cells kv 270 (0, 0))) := Lib.hid (by rw [HB4.out.block _ (Nat.lt_succ_self _)]; exact setRow_heap _ _ _ _ _ _ (heap_alloc_new _ _))
  have HS4 : Hid (w2.heap.size + 1 ≤ w4.heap.size) := Lib.hid (by have h := HB4.out.size; rw [setRow_size, World.size_alloc] at h; exact h)
  have HB24 : Hid (Below w2.heap.size w2 w4) := Lib.hid ((below_setRow ((Below.refl _ w2).alloc (Nat.le_refl _) (.cells (List.replicate 64 (Value.int .u32 0)).toArray 270)) w2.heap.size kv (Nat.le_refl _)).trans (HB4.out.mono (by omega)))
  rw [hhv]
  have HHV := Lib.hid hhv
  clear hhv hB4
  go_wp2_with (refine wpList_store_row rfl 272 _ _ rfl w4.heap.size hv0 rfl rfl 272 _ (heap_alloc_new _ _) HI2.out (by rw [HZ2.out]; rfl) HO2.out ?_)
  obtain ⟨W5, hW5⟩ : ∃ W5, (w4.alloc (.cells (List.replicate 8 (Value.int .u32 0)).toArray 272)).setRow w4.heap.size hv0 = W5 := ⟨_, rfl⟩
  have HR5 : Hid (IRow W5 w4.heap.size .u32 272 (blks 0 shaH0 X)) := Lib.hid (by unfold IRow; rw [← hW5, setRow_heap _ _ _ _ _ _ (heap_alloc_new _ _), ← HHV.out]; rfl)
  have HB5 : Hid (Below w4.heap.size w4 W5) := Lib.hid (by rw [← hW5]; exact below_setRow ((Below.refl _ w4).alloc (Nat.le_refl _) (.cells (List.replicate 8 (Value.int .u32 0)).toArray 272)) _ _ (Nat.le_refl _))
  have HS5 : Hid (W5.heap.size = w4.heap.size + 1) := Lib.hid (by rw [← hW5]; simp)
  simp only [List.replicate, List.toArray] at hW5
  show Code.wp _ _ _ _ _
  rw [hW5]
  obtain ⟨B6, hB6⟩ : ∃ B6, w2.heap.size = B6 := ⟨_, rfl⟩
  obtain ⟨B7, hB7⟩ : ∃ B7, w4.heap.size = B7 := ⟨_, rfl⟩
  have HB6 := Lib.hid hB6
  have HB7 := Lib.hid hB7
  rw [hB6] at HT4 ⊢
  rw [hB7] at HR5 HB5 HS5 ⊢
  have h67 : B6 < B7 := by have := HS4.out; omega
  have hg6 : g < B6 := by have := HS2.out; have := HS1.out.2; omega
  clear hB6 hB7 hW5
  go_loopw [6] (fun c wr => ∃ q : Nat, q ≤ m ∧ c = .int .i64 (64 * (q : Int)) ∧ Hid (IRow wr B7 .u32 272 (blks q shaH0 X)) ∧ Hid (Below B7 w4 wr) ∧ B7 < wr.heap.size) (fun c _ => 64 * m - (intOf c).toNat)
  case atStart => exact ⟨0, by omega, rfl, HR5, HB5, by have := HS5.out; omega⟩
  case round =>
    obtain ⟨q, hq, rfl, HR, HB, hwr⟩ := hrel
    by_cases hlt : q < m
    · obtain ⟨hq0, hhq⟩ : ∃ hq0, intsV (blks q shaH0 X) = hq0 := ⟨_, rfl⟩
      have HZ3 : Hid (hq0.size = 8) := Lib.hid (by rw [← hhq, intsV_size, blks_length _ _ _ rfl])
      have HI3 : Hid ((Tryz.prog.info? 272).map (·.size) = some hq0.size) := Lib.hid (by rw [HZ3.out]; kernel_rfl)
      have HG3 : Hid (wr.heap[B7]? = some (.cells hq0 272 (0, 0))) := Lib.hid (by have h := HR.out; unfold IRow at h; rw [h, ← hhq]; rfl)
      have HG4 : Hid (wr.heap[B6]? = some (.cells kv 270 (0, 0))) := Lib.hid (by rw [HB.out.block _ h67]; exact HT4.out)
      have HHQ := Lib.hid hhq
      have hcm := HCM.out
      have hlm := hLM
      obtain ⟨p, hp⟩ : ∃ p : Nat, 64 * q = p := ⟨_, rfl⟩
      rw [show (64 * (q : Int)) = (p : Int) by omega]
      have HP := Lib.hid hp
      have i1 : (p : Int) < 64 * m := by omega
      have i6 : (p : Int) + 64 ≤ cap := by omega
      have i7 : p + 64 ≤ cap := by omega
      have i8 : ¬ cap = p := by omega
      have i9 : (p : Int) ≤ max ((p : Int) + 64) 0 := by omega
      have j1 : (0 : Int) ≤ (p : Int) + 64 := by omega
      have j2 : ((p : Int) + 64).toNat = p + 64 := by omega
      have hp9 : p ≤ 100000001000 := by omega
      have hw6 : IntKind.i64.wrap ((p : Int) + 64) = (p : Int) + 64 := IntWalk.i64_in _ (by omega)
      clear hp
      clear hhq
      go_wp2_with fail
      go_still_tail 7, (by kernel_rfl)
      refine wpStill_load_row rfl 272 _ rfl B7 rfl 272 hq0 (0, 0) _ HG3.out Tryz.underlying272 rfl HI3.out ?_
      repeat still_step
      refine wpStill_load_row rfl 270 _ rfl B6 rfl 270 kv (0, 0) _ HG4.out Tryz.underlying270 rfl HI1.out ?_
      refine wpStill_nil ?_
      go_wp2_with fail
      have HB14 : Hid (Below w1.heap.size w1 wr) := Lib.hid ((HB2.out.trans (HB24.out.mono HS2.out)).trans (HB.out.mono (by have := HS2.out; have := HB6.out; omega)))
      have HX5 : Hid (wr.rangeAt g p (bytesV ((X.drop p).take 64))) := Lib.hid (by
        have h := rangeAt_sub (rangeAt_below HB14.out HG.out (by have := HS1.out.2; omega)) p 64
        rw [Nat.zero_add, ← bytesV_drop, ← bytesV_take] at h
        exact h)
      have HX6 : Hid (((X.drop p).take 64).length = 64) := Lib.hid (by rw [List.length_take, List.length_drop, HL.out]; have := HP.out; omega)
      have HX7 : Hid (blkL (blks q shaH0 X) ((X.drop p).take 64) = blks (q + 1) shaH0 X) := Lib.hid (by rw [blks_next q shaH0 X (by rw [HL.out]; omega), HP.out])
      rw [← HHQ.out]
      refine (refblock_any g p 64 (cap - p) (blks q shaH0 X) ((X.drop p).take 64) kv wr.drew HKV.out.symm (blks_length _ _ _ rfl) HX5.out HX6.out (Nat.le_refl _) (by omega) (by omega)).mono ?_
      rintro ev w9 ⟨rfl, hB9⟩
      rw [HX7.out]
      obtain ⟨hn0, hhn⟩ : ∃ hn0, intsV (blks (q + 1) shaH0 X) = hn0 := ⟨_, rfl⟩
      have HZ5 : Hid (hn0.size = 8) := Lib.hid (by rw [← hhn, intsV_size, blks_length _ _ _ rfl])
      have HI5 : Hid ((Tryz.prog.info? 272).map (·.size) = some hn0.size) := Lib.hid (by rw [HZ5.out]; kernel_rfl)
      have HO5 : Hid (hn0.all (·.oneCell') = true) := Lib.hid (by rw [← hhn]; exact intsV_one _)
      have HB9 : Hid (Below wr.heap.size wr w9) := Lib.hid (((Below.refl _ wr).drew).trans hB9)
      have HG9 : Hid (w9.heap[B7]? = some (.cells hq0 272 (0, 0))) := Lib.hid (by rw [HB9.out.block _ hwr]; exact HG3.out)
      have hsz9 := HB9.out.size
      rw [hhn]
      have HHN := Lib.hid hhn
      clear hhn hB9
      go_wp2_with (refine wpList_store_row rfl 272 _ _ rfl B7 hn0 rfl rfl 272 _ HG9.out HI5.out (by rw [HZ5.out, HZ3.out]) HO5.out ?_)
      go_roundw
      case rel => exact ⟨q + 1, by omega, by have := HP.out; congr 1; omega, Lib.hid (by unfold IRow; rw [setRow_heap _ _ _ _ _ _ HG9.out, ← HHN.out]; rfl), Lib.hid (below_setRow (HB.out.trans (HB9.out.mono (by omega))) _ _ (Nat.le_refl _)), by rw [setRow_size]; omega⟩
      case measure => have := HP.out; simp [intOf]; omega
    · obtain rfl : q = m := by omega
      obtain ⟨Hs, hHL⟩ : ∃ Hs, blks q shaH0 X = Hs := ⟨_, rfl⟩
      rw [hHL] at HR
      have HL8 : Hid (Hs.length = 8) := Lib.hid (by rw [← hHL]; exact blks_length _ _ _ rfl)
      have HSh : Hid (shaB (bOf s) = Hs.flatMap wordBytes) := Lib.hid (by
        unfold shaB
        rw [bOf_length, HX.out, ← hHL]
        have h1 := congrArg List.length HX.out
        rw [List.length_append, bOf_length, HL.out] at h1
        rw [show (s.size + (tailB s.size).length) / 64 = q by omega])
      have HB0 : Hid (Below wa.heap.size wa wr) := Lib.hid ((HB1.out.trans (HB2.out.mono HS1.out.1)).trans ((HB24.out.mono (by have := HS1.out.1; have := HS2.out; omega)).trans (HB.out.mono (by have := HS1.out.1; have := HS2.out; have := HB6.out; omega))))
      have HF32 : Hid ((Hs.flatMap ints4).length = 32) := Lib.hid (by rw [ints4_len, HL8.out])
      have hsr := HB0.out.size
      have HI0 : Hid (IRow (wr.alloc (.cells (List.replicate 32 (Value.int .u8 0)).toArray 23)) wr.heap.size .u8 23 (brow (Hs.flatMap ints4) 0)) := Lib.hid (irow_new _ _ _ _ (by simp [brow]))
      have HC0 : Hid (Below wr.heap.size wr (wr.alloc (.cells (List.replicate 32 (Value.int .u8 0)).toArray 23))) := Lib.hid ((Below.refl _ _).alloc (Nat.le_refl _) _)
      simp only [List.replicate, List.toArray] at HI0 HC0
      clear hHL
      obtain ⟨wb, rfl⟩ : ∃ wb : World, wb = wr := ⟨_, rfl⟩
      go_wp2
      go_loopw [8] (fun c wr => ∃ t : Nat, t ≤ 32 ∧ c = .int .i64 (t : Int) ∧ Hid (IRow wr wb.heap.size .u8 23 (brow (Hs.flatMap ints4) t)) ∧ Hid (Below wb.heap.size wb wr)) (fun c _ => 32 - (intOf c).toNat)
      case atStart => exact ⟨0, by omega, rfl, HI0, HC0⟩
      case round =>
        obtain ⟨t, ht, rfl, HI, HC⟩ := hrel
        by_cases hlt : t < 32
        · obtain ⟨x, hx⟩ : ∃ x, Hs[t / 4]? = some x := ⟨_, List.getElem?_eq_getElem (by rw [HL8.out]; omega)⟩
          have c0 := (HR.out.below HC.out hwr).cell hx
          have HX9 := Lib.hid (ints4_at Hs t x hx)
          clear hx
          have o0 := HI.out.cell (j := t) (x := 0) (by unfold brow; rw [List.getElem?_append_right (by rw [List.length_take]; omega), List.getElem?_replicate, if_pos (by rw [List.length_take]; have := HF32.out; omega)])
          have f0 := HI.out.frozen t
          have i1 : (t : Int) < 32 := by omega
          have i0 : (0 : Int) ≤ t := by omega
          rw [show 24 - 8 * (t % 4) = 24 - t % 4 * 8 by omega] at HX9
          go_wp2
          refine ⟨⟨t + 1, by omega, by go_num, Lib.hid ((HI.out.set t _).congr (brow_set (Hs.flatMap ints4) t _ HF32.out hlt HX9.out)), Lib.hid (HC.out.setCell (p := ⟨wb.heap.size, t, none⟩) (Nat.le_refl _) _)⟩, ?_⟩
          simp [intOf]; omega
        · obtain rfl : t = 32 := by omega
          obtain ⟨rv, hrv⟩ : ∃ rv, (bytesV (shaB (bOf s))).toArray = rv := ⟨_, rfl⟩
          have hbr : (brow (Hs.flatMap ints4) 32).map (Value.int .u8) = bytesV (Hs.flatMap wordBytes) := by
            have h := orow_all Hs HL8.out
            unfold orow at h
            unfold brow
            rw [List.take_of_length_le (by have := HL8.out; omega)] at h
            rw [List.take_of_length_le (by have := HF32.out; omega)]
            exact h
          have HF : Hid (wr.heap[wb.heap.size]? = some (.cells rv 23 (0, 0))) := Lib.hid (by have h := HI.out; unfold IRow at h; rw [h, hbr, ← hrv, HSh.out])
          have HG9 : Hid (wr.heap[w.heap.size]? = some (.cells ((List.replicate 32 (0 : Int)).map (Value.int .u8)).toArray 23 (0, 0))) := Lib.hid ((hRa.out.below HB0.out (by have := HSA.out; omega)).below HC.out (by have := HSA.out; have := HB0.out.size; omega))
          have HS9 : Hid (rv.size = 32) := Lib.hid (by rw [← hrv]; simp [bytesV_length, shaB_length])
          have HI9 : Hid ((Tryz.prog.info? 23).map (·.size) = some rv.size) := Lib.hid (by rw [HS9.out]; kernel_rfl)
          have HO9 : Hid (rv.all (·.oneCell') = true) := Lib.hid (by rw [← hrv]; exact bytesV_all _)
          have HFin : Hid (Below w.heap.size w (wr.setRow w.heap.size rv)) := Lib.hid (below_setRow ((hBa.out.trans (HB0.out.mono (by have := HSA.out; omega))).trans (HC.out.mono (by have := HSA.out; have := HB0.out.size; omega))) _ _ (Nat.le_refl _))
          have HRV := Lib.hid hrv
          clear hrv hbr
          go_wp2_with (first | (refine wpList_load_row rfl 23 _ rfl wb.heap.size rfl 23 rv (0, 0) _ HF.out Tryz.underlying23 rfl HI9.out ?_) | (refine wpList_store_row rfl 23 _ _ rfl w.heap.size rv rfl rfl 23 _ HG9.out HI9.out (by rw [HS9.out]; simp) HO9.out ?_))
          refine bodyPost_ret (v := .agg rv) (results_cell_row rfl _ _ w.heap.size 23 rv (0, 0) _ rfl (setRow_heap _ _ _ _ _ _ HG9.out) Tryz.underlying23 rfl HI9.out) rfl ⟨by rw [hv, HRV.out], HFin.out⟩
end Go.Proofs.YtnpblpbcchminaaGreatDoor

