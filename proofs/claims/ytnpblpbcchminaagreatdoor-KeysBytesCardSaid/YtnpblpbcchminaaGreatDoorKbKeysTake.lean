import Derived.Test.YtnpblpbcchminaaGreatDoorKbKeysMay
/- codec.Reader: NewReader, ready, fail, bad, next, take. Condition: the table reads as listed. -/
namespace Go.Proofs.YtnpblpbcchminaaGreatDoor
open Go.ChangeShapes Go.WideShapes Go.ChangeAt Go.RowKit
set_option linter.unusedVariables false

theorem but_of {w w' : World} (p : Nat) (h : Below w.heap.size w w') : But (· = p) w w' := ⟨h.os, h.tape, h.output, h.size, fun k hk _ => h.block k hk⟩
/-- a reader in block p: the text S, the place i, its fault's value -/
def RRow (p : Nat) (w : World) (S : ByteArray) (i : Nat) (fv : Value) : Prop := w.heap[p]? = some (.cells #[.string S, .int .i64 i, fv, .bool true] 243 (0, 0)) ∧ i ≤ S.size ∧ S.size ≤ 9223372036854775807
/-- without a fault; with one -/
def ROk (p : Nat) (w : World) (S : ByteArray) (i : Nat) : Prop := RRow p w S i .nilIface
def RBad (p : Nat) (w : World) (S : ByteArray) : Prop := ∃ i a, RRow p w S i (.iface 251 (.pointer (some a)))
theorem RRow.lt {p : Nat} {w : World} {S : ByteArray} {i : Nat} {fv : Value} (h : RRow p w S i fv) : p < w.heap.size := (Array.getElem?_eq_some_iff.1 h.1).1
theorem RRow.below {p : Nat} {w w' : World} {S : ByteArray} {i : Nat} {fv : Value} (h : RRow p w S i fv) (hb : Below w.heap.size w w') : RRow p w' S i fv := ⟨(hb.block _ h.lt).trans h.1, h.2⟩
theorem RBad.below {p : Nat} {w w' : World} {S : ByteArray} (h : RBad p w S) (hb : Below w.heap.size w w') : RBad p w' S := by
  obtain ⟨i, a, h⟩ := h
  exact ⟨i, a, h.below hb⟩
set_option maxRecDepth 100000 in
set_option maxHeartbeats 8000000 in
theorem rnew_any (S : ByteArray) (w : World) (hS : S.size ≤ 9223372036854775807) : Calls Tryz.prog 109 #[.string S] w fun ev w' => ev = .returned (.pointer (some ⟨w.heap.size, 0, none⟩)) ∧ ROk w.heap.size w' S 0 ∧ Below w.heap.size w w' := by
  go_enter Tryz.func109, Tryz.ntmps109
  go_wp2
  go_ret
  exact ⟨rfl, ⟨heap_at _ _ _ rfl, Nat.zero_le _, hS⟩, (Below.refl _ _).alloc (Nat.le_refl _) _⟩
set_option maxRecDepth 100000 in
set_option maxHeartbeats 8000000 in
theorem ready_ok (p i : Nat) (S : ByteArray) (w : World) (h : ROk p w S i) : Calls Tryz.prog 172 #[.pointer (some ⟨p, 0, none⟩)] w fun ev w' => ev = .returned (.bool true) ∧ w = w' := by
  obtain ⟨fv, hfv⟩ : ∃ y, Value.nilIface = y := ⟨_, rfl⟩
  have hrow := h.1
  rw [hfv] at hrow
  have c0 : w.cell? ⟨p, 0, none⟩ = some (.string S) := (cell_of_row w p 0 _ 243 (0, 0) hrow).trans rfl
  have c1 : w.cell? ⟨p, 1, none⟩ = some (.int .i64 i) := (cell_of_row w p 1 _ 243 (0, 0) hrow).trans rfl
  have c2 : w.cell? ⟨p, 2, none⟩ = some fv := (cell_of_row w p 2 _ 243 (0, 0) hrow).trans rfl
  have c3 : w.cell? ⟨p, 3, none⟩ = some (.bool true) := (cell_of_row w p 3 _ 243 (0, 0) hrow).trans rfl
  subst hfv
  clear hrow h
  go_enter Tryz.func172, Tryz.ntmps172
  go_wp2
  go_ret
  exact ⟨rfl, rfl⟩
set_option maxRecDepth 100000 in
set_option maxHeartbeats 8000000 in
theorem ready_bad (p : Nat) (S : ByteArray) (w : World) (h : RBad p w S) : Calls Tryz.prog 172 #[.pointer (some ⟨p, 0, none⟩)] w fun ev w' => ev = .returned (.bool false) ∧ w = w' := by
  obtain ⟨i, a, h⟩ := h
  obtain ⟨fv, hfv⟩ : ∃ y, Value.iface 251 (.pointer (some a)) = y := ⟨_, rfl⟩
  have hrow := h.1
  rw [hfv] at hrow
  have c0 : w.cell? ⟨p, 0, none⟩ = some (.string S) := (cell_of_row w p 0 _ 243 (0, 0) hrow).trans rfl
  have c1 : w.cell? ⟨p, 1, none⟩ = some (.int .i64 i) := (cell_of_row w p 1 _ 243 (0, 0) hrow).trans rfl
  have c2 : w.cell? ⟨p, 2, none⟩ = some fv := (cell_of_row w p 2 _ 243 (0, 0) hrow).trans rfl
  have c3 : w.cell? ⟨p, 3, none⟩ = some (.bool true) := (cell_of_row w p 3 _ 243 (0, 0) hrow).trans rfl
  subst hfv
  clear hrow h
  go_enter Tryz.func172, Tryz.ntmps172
  go_wp2
  go_ret
  exact ⟨rfl, rfl⟩
set_option maxRecDepth 100000 in
set_option maxHeartbeats 8000000 in
theorem fail_ok (p i : Nat) (S : ByteArray) (x : Addr) (w : World) (h : ROk p w S i) : Calls Tryz.prog 199 #[.pointer (some ⟨p, 0, none⟩), .iface 251 (.pointer (some x))] w fun ev w' => ev = .returned (.tuple #[]) ∧ RBad p w' S ∧ But (· = p) w w' := by
  have HRE := Lib.hid (ready_ok p i S w h)
  obtain ⟨fv, hfv⟩ : ∃ y, Value.nilIface = y := ⟨_, rfl⟩
  have hrow := h.1
  have hlt := h.lt
  have HH := Lib.hid h
  rw [hfv] at hrow
  have c0 : w.cell? ⟨p, 0, none⟩ = some (.string S) := (cell_of_row w p 0 _ 243 (0, 0) hrow).trans rfl
  have c1 : w.cell? ⟨p, 1, none⟩ = some (.int .i64 i) := (cell_of_row w p 1 _ 243 (0, 0) hrow).trans rfl
  have c2 : w.cell? ⟨p, 2, none⟩ = some fv := (cell_of_row w p 2 _ 243 (0, 0) hrow).trans rfl
  have c3 : w.cell? ⟨p, 3, none⟩ = some (.bool true) := (cell_of_row w p 3 _ 243 (0, 0) hrow).trans rfl
  have f2 := frozen_of_row w p 2 _ 243 hrow
  have HR := Lib.hid hrow
  clear hrow h hfv
  go_enter Tryz.func199, Tryz.ntmps199
  go_wp2_with fail
  refine HRE.out.mono ?_
  rintro ev w1 ⟨rfl, rfl⟩
  go_wp2_with fail
  refine bodyPost_end (results_none rfl _ _ _) rfl ⟨rfl, ⟨i, x, heap_setCell_same _ _ _ _ _ _ HR.out, HH.out.2⟩, ?_⟩
  exact (But.refl _ w).setCell _ _ _ (fun _ => rfl)
set_option maxRecDepth 100000 in
set_option maxHeartbeats 8000000 in
theorem bad_ok (a : Nat → Addr) (B p i j : Nat) (S : ByteArray) (w : World) (hE : Env B a w) (h : ROk p w S i) : Calls Tryz.prog 175 #[.pointer (some ⟨p, 0, none⟩), .int .i64 j] w fun ev w' => ev = .returned (.tuple #[]) ∧ RBad p w' S ∧ But (· = p) w w' := by
  have he := hE.laid.e3
  have hpl := h.lt
  obtain ⟨wv, hwv⟩ : ∃ y9 : World, w.alloc (.cells #[errV a 3, .int .i64 j] 253) = y9 := ⟨_, rfl⟩
  have HBv : Hid (Below w.heap.size w wv) := Lib.hid (by rw [← hwv]; exact (Below.refl _ _).alloc (Nat.le_refl _) _)
  have HFA := Lib.hid (fail_ok p i S ⟨w.heap.size, 0, none⟩ wv (h.below HBv.out))
  have HWV := Lib.hid hwv
  unfold errV at HWV
  clear h hE hwv
  go_enter Tryz.func175, Tryz.ntmps175
  go_wp2_with fail
  rw [HWV.out]
  refine HFA.out.mono ?_
  rintro ev w1 ⟨rfl, h1, b1⟩
  have H1 := Lib.hid (And.intro h1 ((but_of p HBv.out).trans b1))
  clear h1 b1
  go_wp2_with fail
  exact bodyPost_end (results_none rfl _ _ _) rfl ⟨rfl, H1.out.1, H1.out.2⟩
set_option maxRecDepth 100000 in
set_option maxHeartbeats 8000000 in
theorem next_no (p i k : Nat) (S : ByteArray) (w : World) (h : ROk p w S i) (hk : S.size < i + k) (hk9 : k ≤ 64) : Calls Tryz.prog 174 #[.pointer (some ⟨p, 0, none⟩), .int .i64 k] w fun ev w' => ev = .returned (.tuple #[.string ⟨#[]⟩, .bool false]) ∧ Below w.heap.size w w' := by
  have HH := Lib.hid h
  have HRE : Hid (∀ w', But (fun _ => False) w w' → Calls Tryz.prog 172 #[.pointer (some ⟨p, 0, none⟩)] w' fun ev w2 => ev = .returned (.bool true) ∧ Below w'.heap.size w' w2) := Lib.hid (fun w' hw => (ready_ok p i S w' (h.below (But.to_below hw (Nat.le_refl _) (fun _ _ q => q)))).mono (fun _ _ q => ⟨q.1, by rw [← q.2]; exact Below.refl _ _⟩))
  have KR : Hid (∀ w', But (fun _ => False) w w' → w'.cell? ⟨p, 0, none⟩ = some (.string S) ∧ w'.cell? ⟨p, 1, none⟩ = some (.int .i64 i)) := Lib.hid (fun w' hw => by
    have hg := (hw.same p HH.out.lt (fun q => q)).trans HH.out.1
    exact ⟨(cell_of_row w' p 0 _ 243 (0, 0) hg).trans rfl, (cell_of_row w' p 1 _ 243 (0, 0) hg).trans rfl⟩)
  have hi9 := h.2
  have e1 : IntKind.i64.wrap ((S.size : Int) - i) = (S.size : Int) - i := IntWalk.i64_in _ (by omega)
  have e2 : decide ((S.size : Int) - i < k) = true := by simp; omega
  clear h
  go_enter Tryz.func174, Tryz.ntmps174
  go_upto_region 1 with fail
  refine wp_region_held_drew (S := But (fun _ => False) w) (by kernel_rfl) (But.refl _ _).drew (fun hHeld => ?_)
  refine tk (i := 0) (v := ?v1) rfl ?y1 ?r1
  case y1 => (intro w hSw; (try dsimp only at hSw); go_simp; (try with_reducible rfl))
  try simp only [pu]
  refine wpAnyH_ready (rs := [1]) (by kernel_rfl) (by simp) ?_
  refine AllReadyH.cons (i := 1) rfl (fun K2 hK2 => ?_) AllReadyH.nil
  go_simp
  go_at_call 172
  refine (HRE.out w.drew ((But.refl (fun _ => False) w).drew)).mono ?_
  rintro ev w701 ⟨rfl, bw701⟩
  try go_wp2_with fail
  obtain ⟨Kw701, fw701⟩ := st_call ((But.refl (fun _ => False) w).drew) bw701
  have Kw701 := Lib.hid Kw701
  clear bw701 fw701
  refine hK2.out _ _ Kw701.out (fun hHeld2 => ?_)
  clear hK2 K2
  try simp only [pu]
  refine tk (i := 2) (v := ?v2) rfl ?y2 ?r2
  case y2 => (intro w hSw; (try dsimp only at hSw); go_simp; (try with_reducible rfl))
  try simp only [pu]
  refine tk (i := 3) (v := ?v3) rfl ?y3 ?r3
  case y3 => (intro w hSw; (try dsimp only at hSw); go_simp; (try with_reducible rfl))
  try simp only [pu]
  refine tk (i := 4) (v := ?v4) rfl ?y4 ?r4
  case y4 => (intro w hSw; (try dsimp only at hSw); go_simp; (try with_reducible rfl))
  try simp only [pu]
  refine tk (i := 5) (v := ?v5) rfl ?y5 ?r5
  case y5 => (intro w hSw; (try dsimp only at hSw); go_simp; (try with_reducible rfl))
  try simp only [pu]
  refine tk (i := 6) (v := ?v6) rfl ?y6 ?r6
  case y6 => (intro w hSw; (try dsimp only at hSw); go_simp; (try with_reducible rfl))
  try simp only [pu]
  refine tk (i := 7) (v := ?v7) rfl ?y7 ?r7
  case y7 => (intro w hSw; (try dsimp only at hSw); go_simp; (try with_reducible rfl))
  try simp only [pu]
  refine tk (i := 8) (v := ?v8) rfl ?y8 ?r8
  case y8 => (intro w hSw; (try dsimp only at hSw); obtain ⟨z0, z1⟩ := KR.out w hSw; go_simp; (try with_reducible rfl))
  try simp only [pu]
  refine tk (i := 9) (v := ?v9) rfl ?y9 ?r9
  case y9 => (intro w hSw; (try dsimp only at hSw); go_simp; (try with_reducible rfl))
  try simp only [pu]
  refine tk (i := 10) (v := ?v10) rfl ?y10 ?r10
  case y10 => (intro w hSw; (try dsimp only at hSw); go_simp; (try with_reducible rfl))
  try simp only [pu]
  refine tk (i := 11) (v := ?v11) rfl ?y11 ?r11
  case y11 => (intro w hSw; (try dsimp only at hSw); go_simp; (try with_reducible rfl))
  try simp only [pu]
  refine tk (i := 12) (v := ?v12) rfl ?y12 ?r12
  case y12 => (intro w hSw; (try dsimp only at hSw); go_simp; (try with_reducible rfl))
  try simp only [pu]
  refine tk (i := 13) (v := ?v13) rfl ?y13 ?r13
  case y13 => (intro w hSw; (try dsimp only at hSw); obtain ⟨z0, z1⟩ := KR.out w hSw; go_simp; (try with_reducible rfl))
  try simp only [pu]
  refine tk (i := 14) (v := ?v14) rfl ?y14 ?r14
  case y14 => (intro w hSw; (try dsimp only at hSw); go_simp; (try with_reducible rfl))
  try simp only [pu]
  refine tk (i := 15) (v := ?v15) rfl ?y15 ?r15
  case y15 => (intro w hSw; (try dsimp only at hSw); go_simp; (try with_reducible rfl))
  try simp only [pu]
  refine tk (i := 16) (v := ?v16) rfl ?y16 ?r16
  case y16 => (intro w hSw; (try dsimp only at hSw); go_simp; (try with_reducible rfl))
  try simp only [pu]
  refine wpAnyH_done (by kernel_rfl) ?_ _
  obtain ⟨w1, hnw1⟩ : ∃ y9 : World, w701 = y9 := ⟨_, rfl⟩
  have Bw1 : Hid (Below w.heap.size w w1) := Lib.hid (by rw [← hnw1]; exact But.to_below Kw701.out (Nat.le_refl _) (fun _ _ q => q))
  rw [hnw1]
  clear hnw1 hHeld hHeld2
  go_wp2_with fail
  go_ret2
  exact ⟨rfl, Bw1.out⟩
set_option maxRecDepth 100000 in
set_option maxHeartbeats 8000000 in
theorem next_yes (p i k : Nat) (S : ByteArray) (w : World) (h : ROk p w S i) (hk : i + k ≤ S.size) (hk9 : k ≤ 64) : Calls Tryz.prog 174 #[.pointer (some ⟨p, 0, none⟩), .int .i64 k] w fun ev w' => ev = .returned (.tuple #[.string (S.extract i (i + k)), .bool true]) ∧ ROk p w' S (i + k) ∧ But (· = p) w w' := by
  have HH := Lib.hid h
  have HRE : Hid (∀ w', But (fun _ => False) w w' → Calls Tryz.prog 172 #[.pointer (some ⟨p, 0, none⟩)] w' fun ev w2 => ev = .returned (.bool true) ∧ Below w'.heap.size w' w2) := Lib.hid (fun w' hw => (ready_ok p i S w' (h.below (But.to_below hw (Nat.le_refl _) (fun _ _ q => q)))).mono (fun _ _ q => ⟨q.1, by rw [← q.2]; exact Below.refl _ _⟩))
  have KR : Hid (∀ w', But (fun _ => False) w w' → w'.cell? ⟨p, 0, none⟩ = some (.string S) ∧ w'.cell? ⟨p, 1, none⟩ = some (.int .i64 i)) := Lib.hid (fun w' hw => by
    have hg := (hw.same p HH.out.lt (fun q => q)).trans HH.out.1
    exact ⟨(cell_of_row w' p 0 _ 243 (0, 0) hg).trans rfl, (cell_of_row w' p 1 _ 243 (0, 0) hg).trans rfl⟩)
  have hi9 := h.2
  have hpl := h.lt
  have e1 : IntKind.i64.wrap ((S.size : Int) - i) = (S.size : Int) - i := IntWalk.i64_in _ (by omega)
  have e2 : decide ((S.size : Int) - i < k) = false := by simp; omega
  have e3 : IntKind.i64.wrap ((i : Int) + k) = (i : Int) + k := IntWalk.i64_in _ (by omega)
  have k0 : (0 : Int) ≤ i := by omega
  have k1 : (i : Int) ≤ (i : Int) + k := by omega
  have k2 : (i : Int) + k ≤ S.size := by omega
  have k3 : ((i : Int) + k).toNat = i + k := by omega
  clear h
  go_enter Tryz.func174, Tryz.ntmps174
  go_upto_region 1 with fail
  refine wp_region_held_drew (S := But (fun _ => False) w) (by kernel_rfl) (But.refl _ _).drew (fun hHeld => ?_)
  refine tk (i := 0) (v := ?v33) rfl ?y33 ?r33
  case y33 => (intro w hSw; (try dsimp only at hSw); go_simp; (try with_reducible rfl))
  try simp only [pu]
  refine wpAnyH_ready (rs := [1]) (by kernel_rfl) (by simp) ?_
  refine AllReadyH.cons (i := 1) rfl (fun K2 hK2 => ?_) AllReadyH.nil
  go_simp
  go_at_call 172
  refine (HRE.out w.drew ((But.refl (fun _ => False) w).drew)).mono ?_
  rintro ev w703 ⟨rfl, bw703⟩
  try go_wp2_with fail
  obtain ⟨Kw703, fw703⟩ := st_call ((But.refl (fun _ => False) w).drew) bw703
  have Kw703 := Lib.hid Kw703
  clear bw703 fw703
  refine hK2.out _ _ Kw703.out (fun hHeld2 => ?_)
  clear hK2 K2
  try simp only [pu]
  refine tk (i := 2) (v := ?v34) rfl ?y34 ?r34
  case y34 => (intro w hSw; (try dsimp only at hSw); go_simp; (try with_reducible rfl))
  try simp only [pu]
  refine tk (i := 3) (v := ?v35) rfl ?y35 ?r35
  case y35 => (intro w hSw; (try dsimp only at hSw); go_simp; (try with_reducible rfl))
  try simp only [pu]
  refine tk (i := 4) (v := ?v36) rfl ?y36 ?r36
  case y36 => (intro w hSw; (try dsimp only at hSw); go_simp; (try with_reducible rfl))
  try simp only [pu]
  refine tk (i := 5) (v := ?v37) rfl ?y37 ?r37
  case y37 => (intro w hSw; (try dsimp only at hSw); go_simp; (try with_reducible rfl))
  try simp only [pu]
  refine tk (i := 6) (v := ?v38) rfl ?y38 ?r38
  case y38 => (intro w hSw; (try dsimp only at hSw); go_simp; (try with_reducible rfl))
  try simp only [pu]
  refine tk (i := 7) (v := ?v39) rfl ?y39 ?r39
  case y39 => (intro w hSw; (try dsimp only at hSw); go_simp; (try with_reducible rfl))
  try simp only [pu]
  refine tk (i := 8) (v := ?v40) rfl ?y40 ?r40
  case y40 => (intro w hSw; (try dsimp only at hSw); obtain ⟨z0, z1⟩ := KR.out w hSw; go_simp; (try with_reducible rfl))
  try simp only [pu]
  refine tk (i := 9) (v := ?v41) rfl ?y41 ?r41
  case y41 => (intro w hSw; (try dsimp only at hSw); go_simp; (try with_reducible rfl))
  try simp only [pu]
  refine tk (i := 10) (v := ?v42) rfl ?y42 ?r42
  case y42 => (intro w hSw; (try dsimp only at hSw); go_simp; (try with_reducible rfl))
  try simp only [pu]
  refine tk (i := 11) (v := ?v43) rfl ?y43 ?r43
  case y43 => (intro w hSw; (try dsimp only at hSw); go_simp; (try with_reducible rfl))
  try simp only [pu]
  refine tk (i := 12) (v := ?v44) rfl ?y44 ?r44
  case y44 => (intro w hSw; (try dsimp only at hSw); go_simp; (try with_reducible rfl))
  try simp only [pu]
  refine tk (i := 13) (v := ?v45) rfl ?y45 ?r45
  case y45 => (intro w hSw; (try dsimp only at hSw); obtain ⟨z0, z1⟩ := KR.out w hSw; go_simp; (try with_reducible rfl))
  try simp only [pu]
  refine tk (i := 14) (v := ?v46) rfl ?y46 ?r46
  case y46 => (intro w hSw; (try dsimp only at hSw); go_simp; (try with_reducible rfl))
  try simp only [pu]
  refine tk (i := 15) (v := ?v47) rfl ?y47 ?r47
  case y47 => (intro w hSw; (try dsimp only at hSw); go_simp; (try with_reducible rfl))
  try simp only [pu]
  refine tk (i := 16) (v := ?v48) rfl ?y48 ?r48
  case y48 => (intro w hSw; (try dsimp only at hSw); go_simp; (try with_reducible rfl))
  try simp only [pu]
  refine wpAnyH_done (by kernel_rfl) ?_ _
  obtain ⟨w1, hnw1⟩ : ∃ y9 : World, w703 = y9 := ⟨_, rfl⟩
  have Bw1 : Hid (Below w.heap.size w w1) := Lib.hid (by rw [← hnw1]; exact But.to_below Kw703.out (Nat.le_refl _) (fun _ _ q => q))
  rw [hnw1]
  clear hnw1 hHeld hHeld2
  have hr1 := (Bw1.out.block _ hpl).trans HH.out.1
  have c0 : w1.cell? ⟨p, 0, none⟩ = some (.string S) := (cell_of_row w1 p 0 _ 243 (0, 0) hr1).trans rfl
  have c1 : w1.cell? ⟨p, 1, none⟩ = some (.int .i64 i) := (cell_of_row w1 p 1 _ 243 (0, 0) hr1).trans rfl
  have f1 := frozen_of_row w1 p 1 _ 243 hr1
  have HR1 := Lib.hid hr1
  clear hr1
  go_upto_region 3 with fail
  go_quiet (fail)
  go_wp2_with fail
  go_ret2
  refine ⟨rfl, ⟨?_, hk, hi9.2⟩, ?_⟩
  · have := heap_setCell_same _ p 1 _ 243 (.int .i64 ((i : Int) + k)) HR1.out
    rw [show ((i + k : Nat) : Int) = (i : Int) + k by omega]
    exact this
  · exact (but_of p (below_drewN Bw1.out)).setCell _ _ _ (fun _ => rfl)

end Go.Proofs.YtnpblpbcchminaaGreatDoor
/- codec.Reader: take. Condition: the table reads as listed. -/
namespace Go.Proofs.YtnpblpbcchminaaGreatDoor
open Go.ChangeShapes Go.WideShapes Go.ChangeAt Go.RowKit
set_option linter.unusedVariables false
set_option maxRecDepth 100000 in
set_option maxHeartbeats 8000000 in
theorem take_yes (p i k j : Nat) (S : ByteArray) (w : World) (h : ROk p w S i) (hk : i + k ≤ S.size) (hk9 : k ≤ 64) : Calls Tryz.prog 177 #[.pointer (some ⟨p, 0, none⟩), .int .i64 k, .int .i64 j] w fun ev w' => ev = .returned (.string (S.extract i (i + k))) ∧ ROk p w' S (i + k) ∧ But (· = p) w w' := by
  have HN := Lib.hid (next_yes p i k S w h hk hk9)
  obtain ⟨s, hs⟩ : ∃ s, S.extract i (i + k) = s := ⟨_, rfl⟩
  rw [hs] at HN ⊢
  clear h hs
  go_enter Tryz.func177, Tryz.ntmps177
  go_wp2_with fail
  refine HN.out.mono ?_
  rintro ev w1 ⟨rfl, h1, b1⟩
  have H1 := Lib.hid (And.intro h1 b1)
  clear h1 b1
  go_wp2_with fail
  go_ret
  exact ⟨rfl, H1.out.1, H1.out.2⟩
set_option maxRecDepth 100000 in
set_option maxHeartbeats 8000000 in
theorem take_no (a : Nat → Addr) (B p i k j : Nat) (S : ByteArray) (w : World) (hE : Env B a w) (h : ROk p w S i) (hk : S.size < i + k) (hk9 : k ≤ 64) : Calls Tryz.prog 177 #[.pointer (some ⟨p, 0, none⟩), .int .i64 k, .int .i64 j] w fun ev w' => ev = .returned (.string ⟨#[]⟩) ∧ RBad p w' S ∧ But (· = p) w w' := by
  have HN := Lib.hid (next_no p i k S w h hk hk9)
  have HE := Lib.hid hE
  have HH := Lib.hid h
  have hpl := h.lt
  clear h hE
  go_enter Tryz.func177, Tryz.ntmps177
  go_wp2_with fail
  refine HN.out.mono ?_
  rintro ev w1 ⟨rfl, b1⟩
  have B1 := Lib.hid b1
  have HB := Lib.hid (bad_ok a B p i j S w1 (HE.out.step b1) (HH.out.below b1))
  clear b1
  go_wp2_with fail
  refine HB.out.mono ?_
  rintro ev w2 ⟨rfl, h2, b2⟩
  have H2 := Lib.hid (And.intro h2 ((but_of p B1.out).trans b2))
  clear h2 b2
  go_wp2_with fail
  go_ret
  exact ⟨rfl, H2.out.1, H2.out.2⟩
end Go.Proofs.YtnpblpbcchminaaGreatDoor
