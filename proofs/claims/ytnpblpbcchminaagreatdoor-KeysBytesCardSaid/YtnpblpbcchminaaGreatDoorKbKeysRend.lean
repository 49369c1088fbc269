import Derived.Test.YtnpblpbcchminaaGreatDoorKbKeysRhash
/- codec.Reader: Hash of a reader with a fault, End. Condition: the table reads as listed. -/
namespace Go.Proofs.YtnpblpbcchminaaGreatDoor
open Go.ChangeShapes Go.WideShapes Go.ChangeAt Go.RowKit
set_option linter.unusedVariables false

set_option maxRecDepth 100000 in
set_option maxHeartbeats 8000000 in
theorem rhash_bad (p : Nat) (S : ByteArray) (w : World) (h : RBad p w S) :
    Calls Tryz.prog 112 #[.pointer (some ⟨p, 0, none⟩)] w fun ev w' => ev = .returned (hv zeroH) ∧ Below w.heap.size w w' := by
  obtain ⟨vq, evq, Hvq, Zvq, Ivq, Ovq⟩ := row_of zeroH zeroH_length
  have HQ0 : vq = #[.int .u8 0, .int .u8 0, .int .u8 0, .int .u8 0, .int .u8 0, .int .u8 0, .int .u8 0, .int .u8 0, .int .u8 0, .int .u8 0, .int .u8 0, .int .u8 0, .int .u8 0, .int .u8 0, .int .u8 0, .int .u8 0, .int .u8 0, .int .u8 0, .int .u8 0, .int .u8 0, .int .u8 0, .int .u8 0, .int .u8 0, .int .u8 0, .int .u8 0, .int .u8 0, .int .u8 0, .int .u8 0, .int .u8 0, .int .u8 0, .int .u8 0, .int .u8 0] := by rw [zeroH_v] at evq; cases evq; rfl
  obtain ⟨wv, hwv⟩ : ∃ y9 : World, ((w.alloc (.cells #[.int .u8 0, .int .u8 0, .int .u8 0, .int .u8 0, .int .u8 0, .int .u8 0, .int .u8 0, .int .u8 0, .int .u8 0, .int .u8 0, .int .u8 0, .int .u8 0, .int .u8 0, .int .u8 0, .int .u8 0, .int .u8 0, .int .u8 0, .int .u8 0, .int .u8 0, .int .u8 0, .int .u8 0, .int .u8 0, .int .u8 0, .int .u8 0, .int .u8 0, .int .u8 0, .int .u8 0, .int .u8 0, .int .u8 0, .int .u8 0, .int .u8 0, .int .u8 0] 23)).alloc (.cells #[.int .u8 0, .int .u8 0, .int .u8 0, .int .u8 0, .int .u8 0, .int .u8 0, .int .u8 0, .int .u8 0, .int .u8 0, .int .u8 0, .int .u8 0, .int .u8 0, .int .u8 0, .int .u8 0, .int .u8 0, .int .u8 0, .int .u8 0, .int .u8 0, .int .u8 0, .int .u8 0, .int .u8 0, .int .u8 0, .int .u8 0, .int .u8 0, .int .u8 0, .int .u8 0, .int .u8 0, .int .u8 0, .int .u8 0, .int .u8 0, .int .u8 0, .int .u8 0] 23)) = y9 := ⟨_, rfl⟩
  have HBv : Hid (Below w.heap.size w wv) := Lib.hid (by rw [← hwv]; exact (((Below.refl _ _).alloc (by simp <;> omega) _).alloc (by simp <;> omega) _))
  have HSV : Hid (wv.heap.size = w.heap.size + 2) := Lib.hid (by rw [← hwv]; simp)
  have RA : Hid (wv.heap[w.heap.size]? = some (.cells #[.int .u8 0, .int .u8 0, .int .u8 0, .int .u8 0, .int .u8 0, .int .u8 0, .int .u8 0, .int .u8 0, .int .u8 0, .int .u8 0, .int .u8 0, .int .u8 0, .int .u8 0, .int .u8 0, .int .u8 0, .int .u8 0, .int .u8 0, .int .u8 0, .int .u8 0, .int .u8 0, .int .u8 0, .int .u8 0, .int .u8 0, .int .u8 0, .int .u8 0, .int .u8 0, .int .u8 0, .int .u8 0, .int .u8 0, .int .u8 0, .int .u8 0, .int .u8 0] 23 (0, 0))) := Lib.hid (by rw [← hwv]; exact (((Below.refl (w.alloc (.cells #[.int .u8 0, .int .u8 0, .int .u8 0, .int .u8 0, .int .u8 0, .int .u8 0, .int .u8 0, .int .u8 0, .int .u8 0, .int .u8 0, .int .u8 0, .int .u8 0, .int .u8 0, .int .u8 0, .int .u8 0, .int .u8 0, .int .u8 0, .int .u8 0, .int .u8 0, .int .u8 0, .int .u8 0, .int .u8 0, .int .u8 0, .int .u8 0, .int .u8 0, .int .u8 0, .int .u8 0, .int .u8 0, .int .u8 0, .int .u8 0, .int .u8 0, .int .u8 0] 23)).heap.size (w.alloc (.cells #[.int .u8 0, .int .u8 0, .int .u8 0, .int .u8 0, .int .u8 0, .int .u8 0, .int .u8 0, .int .u8 0, .int .u8 0, .int .u8 0, .int .u8 0, .int .u8 0, .int .u8 0, .int .u8 0, .int .u8 0, .int .u8 0, .int .u8 0, .int .u8 0, .int .u8 0, .int .u8 0, .int .u8 0, .int .u8 0, .int .u8 0, .int .u8 0, .int .u8 0, .int .u8 0, .int .u8 0, .int .u8 0, .int .u8 0, .int .u8 0, .int .u8 0, .int .u8 0] 23))).alloc (Nat.le_refl _) _).block w.heap.size (by simp <;> omega)).trans (heap_at _ _ _ (by simp <;> omega)))
  have RB : Hid (wv.heap[(w.heap.size + 1)]? = some (.cells #[.int .u8 0, .int .u8 0, .int .u8 0, .int .u8 0, .int .u8 0, .int .u8 0, .int .u8 0, .int .u8 0, .int .u8 0, .int .u8 0, .int .u8 0, .int .u8 0, .int .u8 0, .int .u8 0, .int .u8 0, .int .u8 0, .int .u8 0, .int .u8 0, .int .u8 0, .int .u8 0, .int .u8 0, .int .u8 0, .int .u8 0, .int .u8 0, .int .u8 0, .int .u8 0, .int .u8 0, .int .u8 0, .int .u8 0, .int .u8 0, .int .u8 0, .int .u8 0] 23 (0, 0))) := Lib.hid (by rw [← hwv]; exact heap_at _ _ _ (by simp <;> omega))
  have HWV := Lib.hid hwv
  have hsv := HSV.out
  have HRE := Lib.hid (ready_bad p S wv (h.below HBv.out))
  have TB5 : Hid (wv.heap[w.heap.size + 1]? = some (.cells vq 23 (0, 0))) := Lib.hid (by rw [HQ0]; exact RB.out)
  rw [evq]
  clear h hwv evq HQ0
  go_enter Tryz.func112, Tryz.ntmps112
  go_upto_region 2 with fail
  rw [HWV.out]
  go_wp2_with fail
  refine HRE.out.mono ?_
  rintro ev w1 ⟨rfl, rfl⟩
  go_wp2_with (first
    | (refine wpList_load_row rfl 23 _ rfl (w.heap.size + 1) rfl 23 vq (0, 0) _ TB5.out Tryz.underlying23 rfl Ivq.out ?_)
    | (refine wpList_store_row_any rfl 23 _ _ rfl w.heap.size vq rfl rfl 23 _ RA.out Ivq.out (by rw [Zvq.out]; rfl) Ovq.out ?_; intro w6 hbN hgN hsN; have B6 := Lib.hid hbN; have R6 := Lib.hid hgN; clear hbN hgN hsN))
  refine bodyPost_ret (v := .agg vq) (results_cell_row rfl _ _ w.heap.size 23 vq (0, 0) _ rfl R6.out Tryz.underlying23 rfl Ivq.out) rfl ⟨rfl, ?_⟩
  exact HBv.out.trans (B6.out.to_below HBv.out.size (fun k hk q => by omega))

set_option maxRecDepth 100000 in
set_option maxHeartbeats 8000000 in
theorem rend_done (p : Nat) (S : ByteArray) (w : World) (h : ROk p w S S.size) :
    Calls Tryz.prog 113 #[.pointer (some ⟨p, 0, none⟩)] w fun ev w' => ev = .returned .nilIface ∧ Below w.heap.size w w' := by
  obtain ⟨i, hi⟩ : ∃ i, S.size = i := ⟨_, rfl⟩
  rw [hi] at h
  have HH : Hid (RRow p w S i .nilIface) := Lib.hid h
  have KR : Hid (∀ w', But (fun _ => False) w w' → w'.cell? ⟨p, 0, none⟩ = some (.string S) ∧ w'.cell? ⟨p, 1, none⟩ = some (.int .i64 i) ∧ w'.cell? ⟨p, 2, none⟩ = some (.nilIface)) := Lib.hid (fun w' hw => by
    have hg := (hw.same p HH.out.lt (fun q => q)).trans HH.out.1
    exact ⟨(cell_of_row w' p 0 _ 243 (0, 0) hg).trans rfl, (cell_of_row w' p 1 _ 243 (0, 0) hg).trans rfl, (cell_of_row w' p 2 _ 243 (0, 0) hg).trans rfl⟩)
  have c3 : w.cell? ⟨p, 3, none⟩ = some (.bool true) := (cell_of_row w p 3 _ 243 (0, 0) HH.out.1).trans rfl
  have hpl := h.lt
  have e1 : decide ((i : Int) < (S.size : Int)) = false := by simp; omega
  have e1n : decide (i < S.size) = false := by simp; omega
  clear h
  go_enter Tryz.func113, Tryz.ntmps113
  go_upto_region 3 with fail
  refine wp_region_held_drew (S := But (fun _ => False) w) (by kernel_rfl) (But.refl _ _).drew (fun hHeld => ?_)
  refine tk (i := 0) (v := ?v1) rfl ?y1 ?r1
  case y1 => (intro w hSw; (try dsimp only at hSw); go_simp; (try with_reducible rfl))
  try simp only [pu]
  refine tk (i := 1) (v := ?v2) rfl ?y2 ?r2
  case y2 => (intro w hSw; (try dsimp only at hSw); go_simp; (try with_reducible rfl))
  try simp only [pu]
  refine tk (i := 2) (v := ?v3) rfl ?y3 ?r3
  case y3 => (intro w hSw; (try dsimp only at hSw); go_simp; (try with_reducible rfl))
  try simp only [pu]
  refine tk (i := 3) (v := ?v4) rfl ?y4 ?r4
  case y4 => (intro w hSw; (try dsimp only at hSw); obtain ⟨z0, z1, z2⟩ := KR.out w hSw; go_simp; (try with_reducible rfl))
  try simp only [pu]
  refine tk (i := 4) (v := ?v5) rfl ?y5 ?r5
  case y5 => (intro w hSw; (try dsimp only at hSw); go_simp; (try with_reducible rfl))
  try simp only [pu]
  refine tk (i := 5) (v := ?v6) rfl ?y6 ?r6
  case y6 => (intro w hSw; (try dsimp only at hSw); go_simp; (try with_reducible rfl))
  try simp only [pu]
  refine tk (i := 6) (v := ?v7) rfl ?y7 ?r7
  case y7 => (intro w hSw; (try dsimp only at hSw); go_simp; (try with_reducible rfl))
  try simp only [pu]
  refine tk (i := 7) (v := ?v8) rfl ?y8 ?r8
  case y8 => (intro w hSw; (try dsimp only at hSw); go_simp; (try with_reducible rfl))
  try simp only [pu]
  refine tk (i := 8) (v := ?v9) rfl ?y9 ?r9
  case y9 => (intro w hSw; (try dsimp only at hSw); go_simp; (try with_reducible rfl))
  try simp only [pu]
  refine tk (i := 9) (v := ?v10) rfl ?y10 ?r10
  case y10 => (intro w hSw; (try dsimp only at hSw); obtain ⟨z0, z1, z2⟩ := KR.out w hSw; go_simp; (try with_reducible rfl))
  try simp only [pu]
  refine tk (i := 10) (v := ?v11) rfl ?y11 ?r11
  case y11 => (intro w hSw; (try dsimp only at hSw); go_simp; (try with_reducible rfl))
  try simp only [pu]
  refine tk (i := 11) (v := ?v12) rfl ?y12 ?r12
  case y12 => (intro w hSw; (try dsimp only at hSw); go_simp; (try with_reducible rfl))
  try simp only [pu]
  refine tk (i := 12) (v := ?v13) rfl ?y13 ?r13
  case y13 => (intro w hSw; (try dsimp only at hSw); go_simp; (try with_reducible rfl))
  try simp only [pu]
  refine tk (i := 13) (v := ?v14) rfl ?y14 ?r14
  case y14 => (intro w hSw; (try dsimp only at hSw); obtain ⟨z0, z1, z2⟩ := KR.out w hSw; go_simp; (try with_reducible rfl))
  try simp only [pu]
  refine tk (i := 14) (v := ?v15) rfl ?y15 ?r15
  case y15 => (intro w hSw; (try dsimp only at hSw); go_simp; (try with_reducible rfl))
  try simp only [pu]
  refine tk (i := 15) (v := ?v16) rfl ?y16 ?r16
  case y16 => (intro w hSw; (try dsimp only at hSw); go_simp; (try with_reducible rfl))
  try simp only [pu]
  refine tk (i := 16) (v := ?v17) rfl ?y17 ?r17
  case y17 => (intro w hSw; (try dsimp only at hSw); go_simp; (try with_reducible rfl))
  try simp only [pu]
  refine tk (i := 17) (v := ?v18) rfl ?y18 ?r18
  case y18 => (intro w hSw; (try dsimp only at hSw); go_simp; (try with_reducible rfl))
  try simp only [pu]
  refine wpAnyH_done (by kernel_rfl) ?_ _
  obtain ⟨w1, hnw1⟩ : ∃ y9 : World, w.drew = y9 := ⟨_, rfl⟩
  have Bw1 : Hid (Below w.heap.size w w1) := Lib.hid (by rw [← hnw1]; exact But.to_below ((But.refl (fun _ => False) w).drew) (Nat.le_refl _) (fun _ _ q => q))
  rw [hnw1]
  clear hnw1 hHeld
  have c2 : w1.cell? ⟨p, 2, none⟩ = some .nilIface := (cell_of_row w1 p 2 _ 243 (0, 0) ((Bw1.out.block _ hpl).trans HH.out.1)).trans rfl
  go_wp2_with fail
  go_ret
  exact ⟨rfl, Bw1.out⟩
set_option maxRecDepth 100000 in
set_option maxHeartbeats 8000000 in
theorem rend_bad (p : Nat) (S : ByteArray) (w : World) (h : RBad p w S) :
    Calls Tryz.prog 113 #[.pointer (some ⟨p, 0, none⟩)] w fun ev w' => (∃ x, ev = .returned (.iface 251 (.pointer (some x)))) ∧ Below w.heap.size w w' := by
  obtain ⟨i, x, h⟩ := h
  have HH : Hid (RRow p w S i (.iface 251 (.pointer (some x)))) := Lib.hid h
  have KR : Hid (∀ w', But (fun _ => False) w w' → w'.cell? ⟨p, 0, none⟩ = some (.string S) ∧ w'.cell? ⟨p, 1, none⟩ = some (.int .i64 i) ∧ w'.cell? ⟨p, 2, none⟩ = some (.iface 251 (.pointer (some x)))) := Lib.hid (fun w' hw => by
    have hg := (hw.same p HH.out.lt (fun q => q)).trans HH.out.1
    exact ⟨(cell_of_row w' p 0 _ 243 (0, 0) hg).trans rfl, (cell_of_row w' p 1 _ 243 (0, 0) hg).trans rfl, (cell_of_row w' p 2 _ 243 (0, 0) hg).trans rfl⟩)
  have c3 : w.cell? ⟨p, 3, none⟩ = some (.bool true) := (cell_of_row w p 3 _ 243 (0, 0) HH.out.1).trans rfl
  have hpl := h.lt
  clear h
  go_enter Tryz.func113, Tryz.ntmps113
  go_upto_region 3 with fail
  refine wp_region_held_drew (S := But (fun _ => False) w) (by kernel_rfl) (But.refl _ _).drew (fun hHeld => ?_)
  refine tk (i := 0) (v := ?v19) rfl ?y19 ?r19
  case y19 => (intro w hSw; (try dsimp only at hSw); go_simp; (try with_reducible rfl))
  try simp only [pu]
  refine tk (i := 1) (v := ?v20) rfl ?y20 ?r20
  case y20 => (intro w hSw; (try dsimp only at hSw); go_simp; (try with_reducible rfl))
  try simp only [pu]
  refine tk (i := 2) (v := ?v21) rfl ?y21 ?r21
  case y21 => (intro w hSw; (try dsimp only at hSw); go_simp; (try with_reducible rfl))
  try simp only [pu]
  refine tk (i := 3) (v := ?v22) rfl ?y22 ?r22
  case y22 => (intro w hSw; (try dsimp only at hSw); obtain ⟨z0, z1, z2⟩ := KR.out w hSw; go_simp; (try with_reducible rfl))
  try simp only [pu]
  refine tk (i := 4) (v := ?v23) rfl ?y23 ?r23
  case y23 => (intro w hSw; (try dsimp only at hSw); go_simp; (try with_reducible rfl))
  try simp only [pu]
  refine tk (i := 5) (v := ?v24) rfl ?y24 ?r24
  case y24 => (intro w hSw; (try dsimp only at hSw); go_simp; (try with_reducible rfl))
  try simp only [pu]
  refine ts (i := 6) rfl ?_
  try simp only [pu]
  refine ts (i := 7) rfl ?_
  try simp only [pu]
  refine ts (i := 8) rfl ?_
  try simp only [pu]
  refine ts (i := 9) rfl ?_
  try simp only [pu]
  refine ts (i := 10) rfl ?_
  try simp only [pu]
  refine ts (i := 11) rfl ?_
  try simp only [pu]
  refine ts (i := 12) rfl ?_
  try simp only [pu]
  refine ts (i := 13) rfl ?_
  try simp only [pu]
  refine ts (i := 14) rfl ?_
  try simp only [pu]
  refine ts (i := 15) rfl ?_
  try simp only [pu]
  refine tk (i := 16) (v := ?v35) rfl ?y35 ?r35
  case y35 => (intro w hSw; (try dsimp only at hSw); go_simp; (try with_reducible rfl))
  try simp only [pu]
  refine tk (i := 17) (v := ?v36) rfl ?y36 ?r36
  case y36 => (intro w hSw; (try dsimp only at hSw); go_simp; (try with_reducible rfl))
  try simp only [pu]
  refine wpAnyH_done (by kernel_rfl) ?_ _
  obtain ⟨w1, hnw1⟩ : ∃ y9 : World, w.drew = y9 := ⟨_, rfl⟩
  have Bw1 : Hid (Below w.heap.size w w1) := Lib.hid (by rw [← hnw1]; exact But.to_below ((But.refl (fun _ => False) w).drew) (Nat.le_refl _) (fun _ _ q => q))
  rw [hnw1]
  clear hnw1 hHeld
  have c2 : w1.cell? ⟨p, 2, none⟩ = some (.iface 251 (.pointer (some x))) := (cell_of_row w1 p 2 _ 243 (0, 0) ((Bw1.out.block _ hpl).trans HH.out.1)).trans rfl
  go_wp2_with fail
  go_ret
  exact ⟨⟨x, rfl⟩, Bw1.out⟩

set_option maxRecDepth 100000 in
set_option maxHeartbeats 8000000 in
theorem rend_left (a : Nat → Addr) (B p i : Nat) (S : ByteArray) (w : World) (hE : Env B a w) (h : ROk p w S i) (hi : i < S.size) :
    Calls Tryz.prog 113 #[.pointer (some ⟨p, 0, none⟩)] w fun ev w' => (∃ x, ev = .returned (.iface 251 (.pointer (some x)))) ∧ Below w.heap.size w w' := by
  have HH : Hid (RRow p w S i .nilIface) := Lib.hid h
  have HE := Lib.hid hE
  have KR : Hid (∀ w', But (fun _ => False) w w' → w'.cell? ⟨p, 0, none⟩ = some (.string S) ∧ w'.cell? ⟨p, 1, none⟩ = some (.int .i64 i) ∧ w'.cell? ⟨p, 2, none⟩ = some (.nilIface)) := Lib.hid (fun w' hw => by
    have hg := (hw.same p HH.out.lt (fun q => q)).trans HH.out.1
    exact ⟨(cell_of_row w' p 0 _ 243 (0, 0) hg).trans rfl, (cell_of_row w' p 1 _ 243 (0, 0) hg).trans rfl, (cell_of_row w' p 2 _ 243 (0, 0) hg).trans rfl⟩)
  have c3 : w.cell? ⟨p, 3, none⟩ = some (.bool true) := (cell_of_row w p 3 _ 243 (0, 0) HH.out.1).trans rfl
  have hpl := h.lt
  have e1 : decide ((i : Int) < (S.size : Int)) = true := by simp; omega
  clear h hE
  go_enter Tryz.func113, Tryz.ntmps113
  go_upto_region 3 with fail
  refine wp_region_held_drew (S := But (fun _ => False) w) (by kernel_rfl) (But.refl _ _).drew (fun hHeld => ?_)
  refine tk (i := 0) (v := ?v37) rfl ?y37 ?r37
  case y37 => (intro w hSw; (try dsimp only at hSw); go_simp; (try with_reducible rfl))
  try simp only [pu]
  refine tk (i := 1) (v := ?v38) rfl ?y38 ?r38
  case y38 => (intro w hSw; (try dsimp only at hSw); go_simp; (try with_reducible rfl))
  try simp only [pu]
  refine tk (i := 2) (v := ?v39) rfl ?y39 ?r39
  case y39 => (intro w hSw; (try dsimp only at hSw); go_simp; (try with_reducible rfl))
  try simp only [pu]
  refine tk (i := 3) (v := ?v40) rfl ?y40 ?r40
  case y40 => (intro w hSw; (try dsimp only at hSw); obtain ⟨z0, z1, z2⟩ := KR.out w hSw; go_simp; (try with_reducible rfl))
  try simp only [pu]
  refine tk (i := 4) (v := ?v41) rfl ?y41 ?r41
  case y41 => (intro w hSw; (try dsimp only at hSw); go_simp; (try with_reducible rfl))
  try simp only [pu]
  refine tk (i := 5) (v := ?v42) rfl ?y42 ?r42
  case y42 => (intro w hSw; (try dsimp only at hSw); go_simp; (try with_reducible rfl))
  try simp only [pu]
  refine tk (i := 6) (v := ?v43) rfl ?y43 ?r43
  case y43 => (intro w hSw; (try dsimp only at hSw); go_simp; (try with_reducible rfl))
  try simp only [pu]
  refine tk (i := 7) (v := ?v44) rfl ?y44 ?r44
  case y44 => (intro w hSw; (try dsimp only at hSw); go_simp; (try with_reducible rfl))
  try simp only [pu]
  refine tk (i := 8) (v := ?v45) rfl ?y45 ?r45
  case y45 => (intro w hSw; (try dsimp only at hSw); go_simp; (try with_reducible rfl))
  try simp only [pu]
  refine tk (i := 9) (v := ?v46) rfl ?y46 ?r46
  case y46 => (intro w hSw; (try dsimp only at hSw); obtain ⟨z0, z1, z2⟩ := KR.out w hSw; go_simp; (try with_reducible rfl))
  try simp only [pu]
  refine tk (i := 10) (v := ?v47) rfl ?y47 ?r47
  case y47 => (intro w hSw; (try dsimp only at hSw); go_simp; (try with_reducible rfl))
  try simp only [pu]
  refine tk (i := 11) (v := ?v48) rfl ?y48 ?r48
  case y48 => (intro w hSw; (try dsimp only at hSw); go_simp; (try with_reducible rfl))
  try simp only [pu]
  refine tk (i := 12) (v := ?v49) rfl ?y49 ?r49
  case y49 => (intro w hSw; (try dsimp only at hSw); go_simp; (try with_reducible rfl))
  try simp only [pu]
  refine tk (i := 13) (v := ?v50) rfl ?y50 ?r50
  case y50 => (intro w hSw; (try dsimp only at hSw); obtain ⟨z0, z1, z2⟩ := KR.out w hSw; go_simp; (try with_reducible rfl))
  try simp only [pu]
  refine tk (i := 14) (v := ?v51) rfl ?y51 ?r51
  case y51 => (intro w hSw; (try dsimp only at hSw); go_simp; (try with_reducible rfl))
  try simp only [pu]
  refine tk (i := 15) (v := ?v52) rfl ?y52 ?r52
  case y52 => (intro w hSw; (try dsimp only at hSw); go_simp; (try with_reducible rfl))
  try simp only [pu]
  refine tk (i := 16) (v := ?v53) rfl ?y53 ?r53
  case y53 => (intro w hSw; (try dsimp only at hSw); go_simp; (try with_reducible rfl))
  try simp only [pu]
  refine tk (i := 17) (v := ?v54) rfl ?y54 ?r54
  case y54 => (intro w hSw; (try dsimp only at hSw); go_simp; (try with_reducible rfl))
  try simp only [pu]
  refine wpAnyH_done (by kernel_rfl) ?_ _
  obtain ⟨w1, hnw1⟩ : ∃ y9 : World, w.drew = y9 := ⟨_, rfl⟩
  have Bw1 : Hid (Below w.heap.size w w1) := Lib.hid (by rw [← hnw1]; exact But.to_below ((But.refl (fun _ => False) w).drew) (Nat.le_refl _) (fun _ _ q => q))
  rw [hnw1]
  clear hnw1 hHeld
  have hr1 := (Bw1.out.block _ hpl).trans HH.out.1
  have KI : Hid (∀ w', But (fun _ => False) w1 w' → w'.cell? ⟨p, 1, none⟩ = some (.int .i64 i)) := Lib.hid (fun w' hw => (cell_of_row w' p 1 _ 243 (0, 0) ((hw.same p (Array.getElem?_eq_some_iff.1 hr1).1 (fun q => q)).trans hr1)).trans rfl)
  have KE : Hid (∀ w', But (fun _ => False) w1 w' → w'.cell? ⟨4, 0, none⟩ = some (.iface 330 (.pointer (some (a 3))))) := Lib.hid (fun w' hw => (HE.out.step (Bw1.out.trans (But.to_below hw Bw1.out.size (fun _ _ q => q)))).laid.e3)
  clear hr1
  go_upto_region 4 with fail
  refine wp_region_held_drew (S := But (fun _ => False) w1) (by kernel_rfl) (But.refl _ _).drew (fun hHeld => ?_)
  refine tk (i := 0) (v := ?v55) rfl ?y55 ?r55
  case y55 => (intro w hSw; (try dsimp only at hSw); have z0 := KE.out w hSw; go_simp; (try with_reducible rfl))
  try simp only [pu]
  refine tk (i := 1) (v := ?v56) rfl ?y56 ?r56
  case y56 => (intro w hSw; (try dsimp only at hSw); go_simp; (try with_reducible rfl))
  try simp only [pu]
  refine tk (i := 2) (v := ?v57) rfl ?y57 ?r57
  case y57 => (intro w hSw; (try dsimp only at hSw); go_simp; (try with_reducible rfl))
  try simp only [pu]
  refine tk (i := 3) (v := ?v58) rfl ?y58 ?r58
  case y58 => (intro w hSw; (try dsimp only at hSw); go_simp; (try with_reducible rfl))
  try simp only [pu]
  refine tk (i := 4) (v := ?v59) rfl ?y59 ?r59
  case y59 => (intro w hSw; (try dsimp only at hSw); have z0 := KI.out w hSw; go_simp; (try with_reducible rfl))
  try simp only [pu]
  refine tk (i := 5) (v := ?v60) rfl ?y60 ?r60
  case y60 => (intro w hSw; (try dsimp only at hSw); go_simp; (try with_reducible rfl))
  try simp only [pu]
  refine wpAnyH_ready (rs := [6]) (by kernel_rfl) (by simp) ?_
  refine AllReadyH.cons (i := 6) rfl (fun K2 hK2 => ?_) AllReadyH.nil
  go_simp
  obtain ⟨w701, hw701⟩ : ∃ x, (w1.alloc (.cells #[.iface 330 (.pointer (some (a 3))), .int .i64 i] 253)).drew = x := ⟨_, rfl⟩
  obtain ⟨g701, hg701⟩ : ∃ x, w1.heap.size = x := ⟨_, rfl⟩
  obtain ⟨Kw701, Tw701_0, qw701, fw701⟩ := st_alloc ((But.refl (fun _ => False) w1).drew) hw701 hg701
  rw [hw701, hg701]; clear hw701 hg701
  have Kw701 := Lib.hid Kw701
  have Tw701_0 := Lib.hid Tw701_0
  clear fw701
  refine hK2.out _ _ Kw701.out (fun hHeld2 => ?_)
  clear hK2 K2
  try simp only [pu]
  refine tk (i := 7) (v := ?v61) rfl ?y61 ?r61
  case y61 => (intro w hSw; (try dsimp only at hSw); go_simp; (try with_reducible rfl))
  try simp only [pu]
  refine tk (i := 8) (v := ?v62) rfl ?y62 ?r62
  case y62 => (intro w hSw; (try dsimp only at hSw); go_simp; (try with_reducible rfl))
  try simp only [pu]
  refine wpAnyH_done (by kernel_rfl) ?_ _
  obtain ⟨w5, hw5⟩ : ∃ y9 : World, w701 = y9 := ⟨_, rfl⟩
  have B5 : Hid (Below w1.heap.size w1 w5) := Lib.hid (by rw [← hw5]; exact But.to_below Kw701.out (Nat.le_refl _) (fun _ _ q => q))
  rw [hw5]
  clear hw5
  go_wp2_with fail
  go_ret
  exact ⟨⟨_, rfl⟩, Bw1.out.trans (B5.out.mono Bw1.out.size)⟩

end Go.Proofs.YtnpblpbcchminaaGreatDoor
