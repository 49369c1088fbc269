import Derived.Test.YtnpblpbcchminaaGreatDoorKbKeysSign
/- keys: Sign where no key is left; may, Verify where the signature is one. Condition: the table reads as listed. -/
namespace Go.Proofs.YtnpblpbcchminaaGreatDoor
open Go.ChangeShapes Go.WideShapes Go.ChangeAt Go.RowKit
set_option linter.unusedVariables false

set_option maxRecDepth 100000 in
set_option maxHeartbeats 8000000 in
theorem ksign_spent (a : Nat → Addr) (B b : Nat) (s : List UInt8) (f : Nat → List (List UInt8)) (n : Nat) (v0 : Array Value) (ls : List Value) (t : ByteArray) (w : World) (hE : Env B a w) (h : KAt w b s f n (2 ^ n) v0 ls) (hn : n ≤ 6) :
    Calls Tryz.prog 16 #[.pointer (some ⟨b, 0, none⟩), .string t] w fun ev w' => ev = .returned (.tuple #[.agg #[.int .i64 0, .slice none 0 0, .slice none 0 0], errV a 11]) ∧ Below w.heap.size w w' := by
  obtain ⟨wv, hwv⟩ : ∃ y9 : World, (w.alloc (.cells #[.int .i64 0, .slice none 0 0, .slice none 0 0] 26)) = y9 := ⟨_, rfl⟩
  have HBv : Hid (Below w.heap.size w wv) := Lib.hid (by rw [← hwv]; exact ((Below.refl _ _).alloc (by simp <;> omega) _))
  have HSV : Hid (wv.heap.size = w.heap.size + 1) := Lib.hid (by rw [← hwv]; simp)
  have RZ : Hid (wv.heap[w.heap.size]? = some (.cells #[.int .i64 0, .slice none 0 0, .slice none 0 0] 26 (0, 0))) := Lib.hid (by rw [← hwv]; exact heap_at _ _ _ (by simp <;> omega))
  have HWV := Lib.hid hwv
  obtain ⟨sv, hsv9⟩ : ∃ y : Array Value, #[.int .i64 0, .slice none 0 0, .slice none 0 0] = y := ⟨_, rfl⟩
  have Zsv : Hid (sv.size = 3) := Lib.hid (by rw [← hsv9]; rfl)
  have Isv : Hid ((Tryz.prog.info? 26).map (·.size) = some sv.size) := Lib.hid (by rw [Zsv.out]; kernel_rfl)
  have Osv : Hid (sv.all (·.oneCell') = true) := Lib.hid (by rw [← hsv9]; simp [Value.oneCell'])
  have hv := h.below HBv.out
  obtain ⟨z39, z40, z41⟩ := hv.cells
  have HLE : Hid (Calls Tryz.prog 24 #[.pointer (some ⟨b, 0, none⟩)] wv fun ev w' => ev = .returned (.int .i64 0) ∧ Below wv.heap.size wv w') := Lib.hid (by
    have := kleft_any b s f n (2 ^ n) v0 ls wv hv hn (Nat.le_refl _)
    rw [Nat.sub_self] at this; exact this)
  have HE := Lib.hid (hE.step HBv.out)
  have hg11 : 3 < w.heap.size := block_of_cell hE.laid.e11
  have HSV9 := Lib.hid hsv9.symm
  have hsvv := HSV.out
  clear hv h hwv hE hsv9
  go_enter Tryz.func16, Tryz.ntmps16
  go_upto_region 1 with fail
  rw [HWV.out]
  go_upto_region 3 with fail
  go_wp2_with fail
  refine HLE.out.mono ?_
  rintro ev w1 ⟨rfl, b1⟩
  have R1 : Hid (w1.heap[w.heap.size]? = some (.cells #[.int .i64 0, .slice none 0 0, .slice none 0 0] 26 (0, 0))) := Lib.hid ((b1.block _ (by omega)).trans RZ.out)
  have hs1 := b1.size
  have HE1 := Lib.hid (HE.out.step b1)
  have B1w := Lib.hid (HBv.out.trans (b1.mono HBv.out.size))
  have KE : Hid (∀ w', But (· = w.heap.size) w1 w' → w'.cell? ⟨3, 0, none⟩ = some (errV a 11)) := Lib.hid (fun w' hw => hw.cell (HE1.out.laid.e11) (fun e => by have := hg11; omega))
  unfold errV at KE
  clear b1
  go_upto_region 4 with fail
  refine wp_region_held_drew (S := But (· = w.heap.size) w1) (by kernel_rfl) (But.refl _ _).drew (fun hHeld => ?_)
  refine tw (i := 0) rfl (show YieldsIf _ _ _ _ (.agg sv) _ from .inl ⟨by rfl, fun w h => by rw [HSV9.out]; kernel_rfl⟩) ?_
  try simp only [pu]
  refine tk (i := 1) (v := ?v2) rfl ?y2 ?r2
  case y2 => (intro w hSw; (try dsimp only at hSw); have q9 := KE.out w hSw; go_simp; (try with_reducible rfl))
  try simp only [pu]
  refine wpAnyH_ready (rs := [2]) (by kernel_rfl) (by simp) ?_
  refine AllReadyH.cons (i := 2) rfl (fun K2 hK2 => ?_) AllReadyH.nil
  rw [if_pos (by rfl)]
  refine wp_store_row 26 _ _ rfl w.heap.size sv rfl rfl 26 _ (show w1.drew.heap[w.heap.size]? = _ from R1.out) Isv.out (by rw [Zsv.out]; rfl) Osv.out ?_
  obtain ⟨w701, hw701⟩ : ∃ x, w1.drew.setRow w.heap.size sv = x := ⟨_, rfl⟩
  obtain ⟨Kw701, Tw701_0, fw701⟩ := st_row ((But.refl (· = w.heap.size) w1).drew) hw701 (fun _ => rfl) (show w1.drew.heap[w.heap.size]? = _ from R1.out)
  have Kw701 := Lib.hid Kw701
  have Tw701_0 := Lib.hid Tw701_0
  clear fw701
  rw [hw701]
  clear hw701
  refine hK2.out _ _ Kw701.out (fun hHeld2 => ?_)
  clear hK2 K2
  try simp only [pu]
  refine tk (i := 3) (v := ?v3) rfl ?y3 ?r3
  case y3 => (intro w hSw; (try dsimp only at hSw); go_simp; (try with_reducible rfl))
  try simp only [pu]
  refine wpAnyH_done (by kernel_rfl) ?_ _
  go_wp2
  refine bodyPost_ret (v := .tuple #[.agg sv, errV a 11]) (results_row_tmp rfl _ _ w.heap.size 26 sv (0, 0) _ rfl Tw701_0.out Tryz.underlying26 rfl Isv.out _ rfl) rfl ⟨by rw [← HSV9.out], But.to_below Kw701.out B1w.out.size (fun k hk q => by omega) |> (B1w.out.trans ·)⟩

set_option maxRecDepth 100000 in
set_option maxHeartbeats 8000000 in
theorem may_yes (x n : Nat) (A A2 : Option Addr) (c c2 : Nat) (w : World) (hx : x < 64) (hn : n ≤ 6) :
    Calls Tryz.prog 33 #[.agg #[.int .i64 x, .slice A 67 c, .slice A2 n c2]] w fun ev w' => ev = .returned (.bool true) ∧ Below w.heap.size w w' := by
  obtain ⟨wv, hwv⟩ : ∃ y9 : World, (w.alloc (.cells #[.int .i64 x, .slice A 67 c, .slice A2 n c2] 26)) = y9 := ⟨_, rfl⟩
  have HBv : Hid (Below w.heap.size w wv) := Lib.hid (by rw [← hwv]; exact ((Below.refl _ _).alloc (by simp <;> omega) _))
  have HSV : Hid (wv.heap.size = w.heap.size + 1) := Lib.hid (by rw [← hwv]; simp)
  have RZ : Hid (wv.heap[w.heap.size]? = some (.cells #[.int .i64 x, .slice A 67 c, .slice A2 n c2] 26 (0, 0))) := Lib.hid (by rw [← hwv]; exact heap_at _ _ _ (by simp <;> omega))
  have HWV := Lib.hid hwv
  have c0 : wv.cell? ⟨w.heap.size, 0, none⟩ = some (.int .i64 x) := (cell_of_row wv w.heap.size 0 _ 26 (0, 0) RZ.out).trans rfl
  have c1 : wv.cell? ⟨w.heap.size, 1, none⟩ = some (.slice A 67 c) := (cell_of_row wv w.heap.size 1 _ 26 (0, 0) RZ.out).trans rfl
  have c2' : wv.cell? ⟨w.heap.size, 2, none⟩ = some (.slice A2 n c2) := (cell_of_row wv w.heap.size 2 _ 26 (0, 0) RZ.out).trans rfl
  have i1 : decide ((x : Int) < 64) = true := by simp; omega
  have i2 : decide ((n : Int) ≤ 6) = true := by simp; omega
  have i3 : decide ((0 : Int) ≤ x) = true := by simp
  clear hwv
  go_enter Tryz.func33, Tryz.ntmps33
  go_upto_region 1 with fail
  rw [HWV.out]
  go_wp2_with fail
  go_ret
  exact ⟨by first | rfl | simp [i1, i2, i3], HBv.out⟩

set_option maxRecDepth 100000 in
set_option maxHeartbeats 8000000 in
theorem kver_ok (a : Nat → Addr) (B : Nat) (p : List UInt8) (n x : Nat) (t : ByteArray) (A A2 : Option Addr) (c c2 : Nat) (C P : List (List UInt8)) (w : World) (hE : Env B a w) (hp : p.length = 32) (hn : n ≤ 6) (hx : x < 2 ^ n) (ht : t.size ≤ 9223372036854775807) (hC : HIn w A 67 c C) (hP : HIn w A2 n c2 P) (hs : Says nodeH x (2 ^ n - 1) (kleafB (recB (msgB x (bOf t)) C)) P p) :
    Calls Tryz.prog 9 #[hv p, .int .i64 n, .string t, .agg #[.int .i64 x, .slice A 67 c, .slice A2 n c2]] w fun ev w' => ev = .returned .nilIface ∧ Below w.heap.size w w' := by
  obtain ⟨v0, ev0, Hv0, Zv0, Iv0, Ov0⟩ := row_of p hp
  obtain ⟨sv, hsv9⟩ : ∃ y : Array Value, #[.int .i64 x, .slice A 67 c, .slice A2 n c2] = y := ⟨_, rfl⟩
  have Zsv : Hid (sv.size = 3) := Lib.hid (by rw [← hsv9]; rfl)
  have Isv : Hid ((Tryz.prog.info? 26).map (·.size) = some sv.size) := Lib.hid (by rw [Zsv.out]; kernel_rfl)
  obtain ⟨wv, hwv⟩ : ∃ y9 : World, ((w.alloc (.cells v0 23)).alloc (.cells sv 26)) = y9 := ⟨_, rfl⟩
  have HBv : Hid (Below w.heap.size w wv) := Lib.hid (by rw [← hwv]; exact (((Below.refl _ _).alloc (by simp <;> omega) _).alloc (by simp <;> omega) _))
  have HSV : Hid (wv.heap.size = w.heap.size + 2) := Lib.hid (by rw [← hwv]; simp)
  have RV : Hid (wv.heap[w.heap.size]? = some (.cells v0 23 (0, 0))) := Lib.hid (by rw [← hwv]; exact (((Below.refl (w.alloc (.cells v0 23)).heap.size (w.alloc (.cells v0 23))).alloc (Nat.le_refl _) _).block w.heap.size (by simp <;> omega)).trans (heap_at _ _ _ (by simp <;> omega)))
  have RS0 : Hid (wv.heap[(w.heap.size + 1)]? = some (.cells sv 26 (0, 0))) := Lib.hid (by rw [← hwv]; exact heap_at _ _ _ (by simp <;> omega))
  have HWV := Lib.hid hwv
  have hPW : (2 : Nat) ^ n ≤ 64 := Nat.pow_le_pow_right (n := 2) (by omega) (show n ≤ 6 from hn)
  have hsvv := HSV.out
  have RS : Hid (wv.heap[w.heap.size + 1]? = some (.cells sv 26 (0, 0))) := RS0
  have HMAY : Hid (∀ w', Calls Tryz.prog 33 #[.agg sv] w' fun ev w2 => ev = .returned (.bool true) ∧ Below w'.heap.size w' w2) := Lib.hid (fun w' => by rw [← hsv9]; exact may_yes x n A A2 c c2 w' (by omega) hn)
  have KSA : ∀ w' : World, w'.heap[w.heap.size + 1]? = some (.cells sv 26 (0, 0)) → w'.cell? ⟨w.heap.size + 1, 0, none⟩ = some (.int .i64 x) ∧ w'.cell? ⟨w.heap.size + 1, 1, none⟩ = some (.slice A 67 c) ∧ w'.cell? ⟨w.heap.size + 1, 2, none⟩ = some (.slice A2 n c2) := fun w' hg => by
    rw [← hsv9] at hg
    exact ⟨(cell_of_row w' _ 0 _ 26 (0, 0) hg).trans rfl, (cell_of_row w' _ 1 _ 26 (0, 0) hg).trans rfl, (cell_of_row w' _ 2 _ 26 (0, 0) hg).trans rfl⟩
  have HKSA := Lib.hid KSA
  have KS : Hid (∀ w', But (fun _ => False) wv w' → w'.cell? ⟨w.heap.size + 1, 0, none⟩ = some (.int .i64 x) ∧ w'.cell? ⟨w.heap.size + 1, 1, none⟩ = some (.slice A 67 c) ∧ w'.cell? ⟨w.heap.size + 1, 2, none⟩ = some (.slice A2 n c2)) := Lib.hid (fun w' hw => KSA w' ((hw.same _ (by omega) (fun q => q)).trans RS.out))
  have e4 : wrap64 ((2 : Int) ^ n) = ((2 ^ n : Nat) : Int) := by
    rw [show ((2 : Int) ^ n) = ((2 ^ n : Nat) : Int) by push_cast; rfl]
    exact IntWalk.wrap64_in _ (by omega)
  have e6 : IntKind.i64.wrap ((2 : Int) ^ n) = ((2 ^ n : Nat) : Int) := by
    rw [show ((2 : Int) ^ n) = ((2 ^ n : Nat) : Int) by push_cast; rfl]
    exact IntWalk.i64_in _ (by omega)
  have e5 : IntKind.u64.wrap ((2 : Int) ^ n) = ((2 ^ n : Nat) : Int) := by
    rw [show ((2 : Int) ^ n) = ((2 ^ n : Nat) : Int) by push_cast; rfl]
    exact IntWalk.u64_in _ (by omega)
  have HX := Lib.hid (And.intro hx (And.intro hPW ht))
  have HE := Lib.hid (hE.step HBv.out)
  have HC := Lib.hid (hC.below HBv.out)
  have HP := Lib.hid (hP.below HBv.out)
  have HSS := Lib.hid hs
  have HPP := Lib.hid hp
  have EV0 := Lib.hid ev0
  obtain ⟨Q, hQ⟩ : ∃ Q, 2 ^ n = Q := ⟨_, rfl⟩
  rw [hQ] at hx e4 e5 e6 hPW
  have HQ := Lib.hid hQ
  have g1 : decide ((Q : Int) ≤ x) = false := by simp; omega
  have g1n : decide (Q ≤ x) = false := by simp; omega
  have e7 : IntKind.u64.wrap (x : Int) = x := IntWalk.u64_in _ (by omega)
  have g2 : decide ((6 : Int) < n) = false := by simp; omega
  have g3 : decide ((n : Int) < 0) = false := by simp
  have k0 : (0 : Int) ≤ n := by omega
  rw [ev0, hsv9]
  clear KSA hwv hsv9 hE hC hP hs hp ev0 ht hx hQ
  go_enter Tryz.func9, Tryz.ntmps9
  go_upto_region 1 with fail
  rw [HWV.out]
  refine wp_region_held_drew (S := But (fun _ => False) wv) (by kernel_rfl) (But.refl _ _).drew (fun hHeld => ?_)
  refine tk (i := 0) (v := ?v55) rfl ?y55 ?r55
  case y55 => (intro w hSw; (try dsimp only at hSw); go_simp; (try with_reducible rfl))
  try simp only [pu]
  refine tk (i := 1) (v := ?v56) rfl ?y56 ?r56
  case y56 => (intro w hSw; (try dsimp only at hSw); go_simp; (try with_reducible rfl))
  try simp only [pu]
  refine tk (i := 2) (v := ?v57) rfl ?y57 ?r57
  case y57 => (intro w hSw; (try dsimp only at hSw); go_simp; (try with_reducible rfl))
  try simp only [pu]
  refine tk (i := 3) (v := ?v58) rfl ?y58 ?r58
  case y58 => (intro w hSw; (try dsimp only at hSw); go_simp; (try with_reducible rfl))
  try simp only [pu]
  refine tk (i := 4) (v := ?v59) rfl ?y59 ?r59
  case y59 => (intro w hSw; (try dsimp only at hSw); go_simp; (try with_reducible rfl))
  try simp only [pu]
  refine tk (i := 5) (v := ?v60) rfl ?y60 ?r60
  case y60 => (intro w hSw; (try dsimp only at hSw); go_simp; (try with_reducible rfl))
  try simp only [pu]
  refine tk (i := 6) (v := ?v61) rfl ?y61 ?r61
  case y61 => (intro w hSw; (try dsimp only at hSw); go_simp; (try with_reducible rfl))
  try simp only [pu]
  refine tw (i := 7) rfl (yieldsIf_load_row (by rfl) 26 _ (by rfl) (w.heap.size + 1) (by rfl) 26 sv (0, 0) _ (fun w h => (h.same _ (by omega) (fun q => q)).trans RS.out) Tryz.underlying26 (by rfl) Isv.out) ?_
  try simp only [pu]
  refine wpAnyH_ready (rs := [8]) (by kernel_rfl) (by simp) ?_
  refine AllReadyH.cons (i := 8) rfl (fun K2 hK2 => ?_) AllReadyH.nil
  go_simp
  go_at_call 33
  refine (HMAY.out wv.drew).mono ?_
  rintro ev w719 ⟨rfl, bw719⟩
  try go_wp2_with fail
  obtain ⟨Kw719, fw719⟩ := st_call ((But.refl (fun _ => False) wv).drew) bw719
  have Kw719 := Lib.hid Kw719
  clear bw719 fw719
  refine hK2.out _ _ Kw719.out (fun hHeld2 => ?_)
  clear hK2 K2
  try simp only [pu]
  refine tk (i := 9) (v := ?v63) rfl ?y63 ?r63
  case y63 => (intro w hSw; (try dsimp only at hSw); go_simp; (try with_reducible rfl))
  try simp only [pu]
  refine tk (i := 10) (v := ?v64) rfl ?y64 ?r64
  case y64 => (intro w hSw; (try dsimp only at hSw); go_simp; (try with_reducible rfl))
  try simp only [pu]
  refine tk (i := 11) (v := ?v65) rfl ?y65 ?r65
  case y65 => (intro w hSw; (try dsimp only at hSw); go_simp; (try with_reducible rfl))
  try simp only [pu]
  refine tk (i := 12) (v := ?v66) rfl ?y66 ?r66
  case y66 => (intro w hSw; (try dsimp only at hSw); go_simp; (try with_reducible rfl))
  try simp only [pu]
  refine tk (i := 13) (v := ?v67) rfl ?y67 ?r67
  case y67 => (intro w hSw; (try dsimp only at hSw); obtain ⟨z0, z1, z2⟩ := KS.out w hSw; go_simp; (try with_reducible rfl))
  try simp only [pu]
  refine tk (i := 14) (v := ?v68) rfl ?y68 ?r68
  case y68 => (intro w hSw; (try dsimp only at hSw); go_simp; (try with_reducible rfl))
  try simp only [pu]
  refine tk (i := 15) (v := ?v69) rfl ?y69 ?r69
  case y69 => (intro w hSw; (try dsimp only at hSw); go_simp; (try with_reducible rfl))
  try simp only [pu]
  refine tk (i := 16) (v := ?v70) rfl ?y70 ?r70
  case y70 => (intro w hSw; (try dsimp only at hSw); go_simp; (try with_reducible rfl))
  try simp only [pu]
  refine tk (i := 17) (v := ?v71) rfl ?y71 ?r71
  case y71 => (intro w hSw; (try dsimp only at hSw); go_simp; (try with_reducible rfl))
  try simp only [pu]
  refine tk (i := 18) (v := ?v72) rfl ?y72 ?r72
  case y72 => (intro w hSw; (try dsimp only at hSw); go_simp; (try with_reducible rfl))
  try simp only [pu]
  refine tk (i := 19) (v := ?v73) rfl ?y73 ?r73
  case y73 => (intro w hSw; (try dsimp only at hSw); go_simp; (try with_reducible rfl))
  try simp only [pu]
  refine tk (i := 20) (v := ?v74) rfl ?y74 ?r74
  case y74 => (intro w hSw; (try dsimp only at hSw); obtain ⟨z0, z1, z2⟩ := KS.out w hSw; go_simp; (try with_reducible rfl))
  try simp only [pu]
  refine tk (i := 21) (v := ?v75) rfl ?y75 ?r75
  case y75 => (intro w hSw; (try dsimp only at hSw); go_simp; (try with_reducible rfl))
  try simp only [pu]
  refine tk (i := 22) (v := ?v76) rfl ?y76 ?r76
  case y76 => (intro w hSw; (try dsimp only at hSw); go_simp; (try with_reducible rfl))
  try simp only [pu]
  refine tk (i := 23) (v := ?v77) rfl ?y77 ?r77
  case y77 => (intro w hSw; (try dsimp only at hSw); go_simp; (try with_reducible rfl))
  try simp only [pu]
  refine tk (i := 24) (v := ?v78) rfl ?y78 ?r78
  case y78 => (intro w hSw; (try dsimp only at hSw); go_simp; (try with_reducible rfl))
  try simp only [pu]
  refine wpAnyH_done (by kernel_rfl) ?_ _
  obtain ⟨w1, hnw1⟩ : ∃ y9 : World, w719 = y9 := ⟨_, rfl⟩
  have Bw1 : Hid (Below wv.heap.size wv w1) := Lib.hid (by rw [← hnw1]; exact But.to_below Kw719.out (Nat.le_refl _) (fun _ _ q => q))
  rw [hnw1]
  clear hnw1 hHeld hHeld2
  have KS1 : Hid (∀ w', But (fun _ => False) w1 w' → w'.cell? ⟨w.heap.size + 1, 0, none⟩ = some (.int .i64 x) ∧ w'.cell? ⟨w.heap.size + 1, 1, none⟩ = some (.slice A 67 c) ∧ w'.cell? ⟨w.heap.size + 1, 2, none⟩ = some (.slice A2 n c2)) := Lib.hid (fun w' hw => HKSA.out w' ((hw.same _ (by have := Bw1.out.size; omega) (fun q => q)).trans ((Bw1.out.block _ (by omega)).trans RS.out)))
  obtain ⟨vm, evm, Hvm, Zvm, Ivm, Ovm⟩ := row_of (msgB x (bOf t)) (msgB_length _ _)
  obtain ⟨vr, evr, Hvr, Zvr, Ivr, Ovr⟩ := row_of (recB (msgB x (bOf t)) C) (endB_length _)
  obtain ⟨vl, evl, Hvl, Zvl, Ivl, Ovl⟩ := row_of (kleafB (recB (msgB x (bOf t)) C)) (kleafB_length _)
  have HE1 := Lib.hid (HE.out.step Bw1.out)
  have HKW := Lib.hid (fun (w' : World) (h : Below w1.heap.size w1 w') => (HE1.out.step h))
  have HME : Hid (∀ w', Below w1.heap.size w1 w' → Calls Tryz.prog 35 #[.int .i64 x, .string t] w' fun ev w3 => ev = .returned (.agg vm) ∧ Below w'.heap.size w' w3) := Lib.hid (fun w' hb => by
    have := msg_any x t w' (by have := HX.out; omega) HX.out.2.2 (HKW.out w' hb).tab
    rw [evm] at this; exact this)
  have HRC : Hid (∀ w', Below w1.heap.size w1 w' → Calls Tryz.prog 34 #[.agg vm, .slice A 67 c] w' fun ev w3 => ev = .returned (.tuple #[.agg vr, .nilIface]) ∧ Below w'.heap.size w' w3) := Lib.hid (fun w' hb => by
    have := rec_any (msgB x (bOf t)) A c C w' (msgB_length _ _) ((HC.out.below Bw1.out).below hb) (HKW.out w' hb).tab
    rw [evm, evr] at this; exact this)
  have hs1 := Bw1.out.size
  have HKL : Hid (∀ w', Below w1.heap.size w1 w' → Calls Tryz.prog 37 #[.agg vr] w' fun ev w3 => ev = .returned (.agg vl) ∧ Below w'.heap.size w' w3) := Lib.hid (fun w' hb => by
    have := kleaf_any (recB (msgB x (bOf t)) C) w' (endB_length _) (HKW.out w' hb).tab
    rw [evr, evl] at this; exact this)
  have HIN : Hid (∀ w', Below w1.heap.size w1 w' → Calls Tryz.prog 36 #[.int .u64 x, .int .u64 Q, .agg vl, .slice A2 n c2, .agg v0] w' fun ev w3 => ev = .returned .nilIface ∧ Below w'.heap.size w' w3) := Lib.hid (fun w' hb => by
    have := vincl_ok a B x Q (kleafB (recB (msgB x (bOf t)) C)) P p A2 n c2 w' (HKW.out w' hb) (kleafB_length _) HPP.out ((HP.out.below Bw1.out).below hb) (by rw [← HQ.out]; exact HX.out.1) (by omega) (by rw [← HQ.out]; exact HSS.out) (by omega)
    rw [EV0.out, evl] at this; exact this)
  clear evm evr evl
  go_upto_region 3 with fail
  refine wp_region_held_drew (S := But (fun _ => False) w1) (by kernel_rfl) (But.refl _ _).drew (fun hHeld => ?_)
  refine tk (i := 0) (v := ?v4) rfl ?y4 ?r4
  case y4 => (intro w hSw; (try dsimp only at hSw); go_simp; (try with_reducible rfl))
  try simp only [pu]
  refine tk (i := 1) (v := ?v5) rfl ?y5 ?r5
  case y5 => (intro w hSw; (try dsimp only at hSw); obtain ⟨z0, z1, z2⟩ := KS1.out w hSw; go_simp; (try with_reducible rfl))
  try simp only [pu]
  refine tk (i := 2) (v := ?v6) rfl ?y6 ?r6
  case y6 => (intro w hSw; (try dsimp only at hSw); go_simp; (try with_reducible rfl))
  try simp only [pu]
  refine tk (i := 4) (v := ?v7) rfl ?y7 ?r7
  case y7 => (intro w hSw; (try dsimp only at hSw); go_simp; (try with_reducible rfl))
  try simp only [pu]
  refine tk (i := 5) (v := ?v8) rfl ?y8 ?r8
  case y8 => (intro w hSw; (try dsimp only at hSw); obtain ⟨z0, z1, z2⟩ := KS1.out w hSw; go_simp; (try with_reducible rfl))
  try simp only [pu]
  refine wpAnyH_ready (rs := [3, 10]) (by kernel_rfl) (by simp) ?_
  refine AllReadyH.cons (i := 3) rfl (fun K2 hK2 => ?_) ?more9
  · skip
    go_simp
    go_at_call 35
    refine (HME.out w1.drew (But.to_below ((But.refl (fun _ => False) w1).drew) (Nat.le_refl _) (fun _ _ q => q))).mono ?_
    rintro ev w702 ⟨rfl, bw702⟩
    try go_wp2_with fail
    obtain ⟨Kw702, fw702⟩ := st_call ((But.refl (fun _ => False) w1).drew) bw702
    have Kw702 := Lib.hid Kw702
    clear bw702 fw702
    refine hK2.out _ _ Kw702.out (fun hHeld2 => ?_)
    clear hK2 K2
    try simp only [pu]
    refine wpAnyH_ready (rs := [6, 10]) (by kernel_rfl) (by simp) ?_
    refine AllReadyH.cons (i := 6) rfl (fun K2 hK2 => ?_) ?more10
    · skip
      go_simp
      go_at_call 34
      refine (HRC.out w702 (But.to_below Kw702.out (Nat.le_refl _) (fun _ _ q => q))).mono ?_
      rintro ev w703 ⟨rfl, bw703⟩
      try go_wp2_with fail
      obtain ⟨Kw703, fw703⟩ := st_call Kw702.out bw703
      have Kw703 := Lib.hid Kw703
      clear bw703 fw703
      refine hK2.out _ _ Kw703.out (fun hHeld2 => ?_)
      clear hK2 K2
      try simp only [pu]
      refine tk (i := 7) (v := ?v11) rfl ?y11 ?r11
      case y11 => (intro w hSw; (try dsimp only at hSw); go_simp; (try with_reducible rfl))
      try simp only [pu]
      refine tk (i := 8) (v := ?v12) rfl ?y12 ?r12
      case y12 => (intro w hSw; (try dsimp only at hSw); go_simp; (try with_reducible rfl))
      try simp only [pu]
      refine tk (i := 9) (v := ?v13) rfl ?y13 ?r13
      case y13 => (intro w hSw; (try dsimp only at hSw); go_simp; (try with_reducible rfl))
      try simp only [pu]
      refine wpAnyH_ready (rs := [10]) (by kernel_rfl) (by simp) ?_
      refine AllReadyH.cons (i := 10) rfl (fun K2 hK2 => ?_) AllReadyH.nil
      go_simp
      obtain ⟨w704, hw704⟩ : ∃ x, (w703.alloc (.cells (List.replicate 32 (Value.int .u8 0)).toArray 23)) = x := ⟨_, rfl⟩
      obtain ⟨g704, hg704⟩ : ∃ x, w703.heap.size = x := ⟨_, rfl⟩
      obtain ⟨Kw704, Tw704_0, qw704, fw704⟩ := st_alloc Kw703.out hw704 hg704
      simp only [List.replicate] at hw704; rw [hw704, hg704]; clear hw704 hg704
      have Kw704 := Lib.hid Kw704
      have Tw704_0 := Lib.hid Tw704_0
      clear fw704
      refine hK2.out _ _ Kw704.out (fun hHeld2 => ?_)
      clear hK2 K2
      try simp only [pu]
      refine wpAnyH_ready (rs := [11]) (by kernel_rfl) (by simp) ?_
      refine AllReadyH.cons (i := 11) rfl (fun K2 hK2 => ?_) AllReadyH.nil
      rw [if_pos (by rfl)]
      refine wp_store_row 23 _ _ rfl g704 vr rfl rfl 23 _ Tw704_0.out Ivr.out (by rw [Zvr.out]; rfl) Ovr.out ?_
      obtain ⟨w705, hw705⟩ : ∃ x, w704.setRow g704 vr = x := ⟨_, rfl⟩
      obtain ⟨Kw705, Tw705_0, fw705⟩ := st_row Kw704.out hw705 (fun h => absurd h (by omega)) Tw704_0.out
      have Kw705 := Lib.hid Kw705
      have Tw705_0 := Lib.hid Tw705_0
      clear fw705
      rw [hw705]
      clear hw705
      refine hK2.out _ _ Kw705.out (fun hHeld2 => ?_)
      clear hK2 K2
      try simp only [pu]
      refine tk (i := 12) (v := ?v14) rfl ?y14 ?r14
      case y14 => (intro w hSw; (try dsimp only at hSw); go_simp; (try with_reducible rfl))
      try simp only [pu]
      refine wpAnyH_done (by kernel_rfl) ?_ _
      obtain ⟨w3, hnw3⟩ : ∃ y9 : World, w705 = y9 := ⟨_, rfl⟩
      have Bw3 : Hid (Below w1.heap.size w1 w3) := Lib.hid (by rw [← hnw3]; exact But.to_below Kw705.out (Nat.le_refl _) (fun _ _ q => q))
      have TG : Hid (w3.heap[g704]? = some (.cells vr 23 (0, 0))) := Lib.hid (by rw [← hnw3]; exact Tw705_0.out)
      rw [hnw3]
      clear hnw3 hHeld hHeld2
      obtain ⟨g9, hg9⟩ : ∃ y : Nat, g704 = y := ⟨_, rfl⟩
      rw [hg9] at TG ⊢
      clear hg9
      have KS3 : Hid (∀ w', But (fun _ => False) w3 w' → w'.cell? ⟨w.heap.size + 1, 0, none⟩ = some (.int .i64 x) ∧ w'.cell? ⟨w.heap.size + 1, 1, none⟩ = some (.slice A 67 c) ∧ w'.cell? ⟨w.heap.size + 1, 2, none⟩ = some (.slice A2 n c2)) := Lib.hid (fun w' hw => HKSA.out w' ((hw.same _ (by have := Bw3.out.size; omega) (fun q => q)).trans ((Bw3.out.block _ (by omega)).trans ((Bw1.out.block _ (by omega)).trans RS.out))))
      have RV3 : Hid (w3.heap[w.heap.size]? = some (.cells v0 23 (0, 0))) := Lib.hid ((Bw3.out.block _ (by omega)).trans ((Bw1.out.block _ (by omega)).trans RV.out))
      go_upto_region 6 with fail
      refine wp_region_held_drew (S := But (fun _ => False) w3) (by kernel_rfl) (But.refl _ _).drew (fun hHeld => ?_)
      refine tk (i := 0) (v := ?v15) rfl ?y15 ?r15
      case y15 => (intro w hSw; (try dsimp only at hSw); go_simp; (try with_reducible rfl))
      try simp only [pu]
      refine tk (i := 1) (v := ?v16) rfl ?y16 ?r16
      case y16 => (intro w hSw; (try dsimp only at hSw); obtain ⟨z0, z1, z2⟩ := KS3.out w hSw; go_simp; (try with_reducible rfl))
      try simp only [pu]
      refine tk (i := 2) (v := ?v17) rfl ?y17 ?r17
      case y17 => (intro w hSw; (try dsimp only at hSw); go_simp; (try with_reducible rfl))
      try simp only [pu]
      refine tk (i := 3) (v := ?v18) rfl ?y18 ?r18
      case y18 => (intro w hSw; (try dsimp only at hSw); go_simp; (try with_reducible rfl))
      try simp only [pu]
      refine tk (i := 4) (v := ?v19) rfl ?y19 ?r19
      case y19 => (intro w hSw; (try dsimp only at hSw); go_simp; (try with_reducible rfl))
      try simp only [pu]
      refine tw (i := 5) rfl (yieldsIf_load_row (by rfl) 23 _ (by rfl) g9 (by rfl) 23 vr (0, 0) _ (fun w h => (h.same _ (by have := (Array.getElem?_eq_some_iff.1 TG.out).1; exact this) (fun q => q)).trans TG.out) Tryz.underlying23 (by rfl) Ivr.out) ?_
      try simp only [pu]
      refine tk (i := 7) (v := ?v21) rfl ?y21 ?r21
      case y21 => (intro w hSw; (try dsimp only at hSw); go_simp; (try with_reducible rfl))
      try simp only [pu]
      refine tk (i := 8) (v := ?v22) rfl ?y22 ?r22
      case y22 => (intro w hSw; (try dsimp only at hSw); obtain ⟨z0, z1, z2⟩ := KS3.out w hSw; go_simp; (try with_reducible rfl))
      try simp only [pu]
      refine tw (i := 9) rfl (yieldsIf_load_row (by rfl) 23 _ (by rfl) w.heap.size (by rfl) 23 v0 (0, 0) _ (fun w h => (h.same _ (by have := (Array.getElem?_eq_some_iff.1 RV3.out).1; exact this) (fun q => q)).trans RV3.out) Tryz.underlying23 (by rfl) Iv0.out) ?_
      try simp only [pu]
      refine wpAnyH_ready (rs := [6]) (by kernel_rfl) (by simp) ?_
      refine AllReadyH.cons (i := 6) rfl (fun K2 hK2 => ?_) AllReadyH.nil
      go_simp
      go_at_call 37
      refine (HKL.out w3.drew (Bw3.out.trans (But.to_below ((But.refl (fun _ => False) w3).drew) Bw3.out.size (fun _ _ q => q)))).mono ?_
      rintro ev w706 ⟨rfl, bw706⟩
      try go_wp2_with fail
      obtain ⟨Kw706, fw706⟩ := st_call ((But.refl (fun _ => False) w3).drew) bw706
      have Kw706 := Lib.hid Kw706
      clear bw706 fw706
      refine hK2.out _ _ Kw706.out (fun hHeld2 => ?_)
      clear hK2 K2
      try simp only [pu]
      refine wpAnyH_ready (rs := [10]) (by kernel_rfl) (by simp) ?_
      refine AllReadyH.cons (i := 10) rfl (fun K2 hK2 => ?_) AllReadyH.nil
      go_simp
      go_at_call 36
      refine (HIN.out w706 (Bw3.out.trans (But.to_below Kw706.out Bw3.out.size (fun _ _ q => q)))).mono ?_
      rintro ev w707 ⟨rfl, bw707⟩
      try go_wp2_with fail
      obtain ⟨Kw707, fw707⟩ := st_call Kw706.out bw707
      have Kw707 := Lib.hid Kw707
      clear bw707 fw707
      refine hK2.out _ _ Kw707.out (fun hHeld2 => ?_)
      clear hK2 K2
      try simp only [pu]
      refine tk (i := 11) (v := ?v24) rfl ?y24 ?r24
      case y24 => (intro w hSw; (try dsimp only at hSw); go_simp; (try with_reducible rfl))
      try simp only [pu]
      refine wpAnyH_done (by kernel_rfl) ?_ _
      obtain ⟨w6, hnw6⟩ : ∃ y9 : World, w707 = y9 := ⟨_, rfl⟩
      have Bw6 : Hid (Below w3.heap.size w3 w6) := Lib.hid (by rw [← hnw6]; exact But.to_below Kw707.out (Nat.le_refl _) (fun _ _ q => q))
      rw [hnw6]
      clear hnw6 hHeld hHeld2
      go_wp2_with fail
      go_ret
      exact ⟨rfl, HBv.out.trans ((Bw1.out.trans ((Bw3.out.trans (Bw6.out.mono Bw3.out.size)).mono Bw1.out.size)).mono HBv.out.size)⟩
    
    refine AllReadyH.cons (i := 10) rfl (fun K2 hK2 => ?_) ?more25
    · skip
      go_simp
      obtain ⟨w708, hw708⟩ : ∃ x, (w702.alloc (.cells (List.replicate 32 (Value.int .u8 0)).toArray 23)) = x := ⟨_, rfl⟩
      obtain ⟨g708, hg708⟩ : ∃ x, w702.heap.size = x := ⟨_, rfl⟩
      obtain ⟨Kw708, Tw708_0, qw708, fw708⟩ := st_alloc Kw702.out hw708 hg708
      simp only [List.replicate] at hw708; rw [hw708, hg708]; clear hw708 hg708
      have Kw708 := Lib.hid Kw708
      have Tw708_0 := Lib.hid Tw708_0
      clear fw708
      refine hK2.out _ _ Kw708.out (fun hHeld2 => ?_)
      clear hK2 K2
      try simp only [pu]
      refine wpAnyH_ready (rs := [6]) (by kernel_rfl) (by simp) ?_
      refine AllReadyH.cons (i := 6) rfl (fun K2 hK2 => ?_) AllReadyH.nil
      go_simp
      go_at_call 34
      refine (HRC.out w708 (But.to_below Kw708.out (Nat.le_refl _) (fun _ _ q => q))).mono ?_
      rintro ev w709 ⟨rfl, bw709⟩
      try go_wp2_with fail
      obtain ⟨Kw709, fw709⟩ := st_call Kw708.out bw709
      have Kw709 := Lib.hid Kw709
      have Tw709_0 := Lib.hid (fw709 _ _ Tw708_0.out)
      clear bw709 fw709
      refine hK2.out _ _ Kw709.out (fun hHeld2 => ?_)
      clear hK2 K2
      try simp only [pu]
      refine tk (i := 7) (v := ?v26) rfl ?y26 ?r26
      case y26 => (intro w hSw; (try dsimp only at hSw); go_simp; (try with_reducible rfl))
      try simp only [pu]
      refine tk (i := 8) (v := ?v27) rfl ?y27 ?r27
      case y27 => (intro w hSw; (try dsimp only at hSw); go_simp; (try with_reducible rfl))
      try simp only [pu]
      refine tk (i := 9) (v := ?v28) rfl ?y28 ?r28
      case y28 => (intro w hSw; (try dsimp only at hSw); go_simp; (try with_reducible rfl))
      try simp only [pu]
      refine wpAnyH_ready (rs := [11]) (by kernel_rfl) (by simp) ?_
      refine AllReadyH.cons (i := 11) rfl (fun K2 hK2 => ?_) AllReadyH.nil
      rw [if_pos (by rfl)]
      refine wp_store_row 23 _ _ rfl g708 vr rfl rfl 23 _ Tw709_0.out Ivr.out (by rw [Zvr.out]; rfl) Ovr.out ?_
      obtain ⟨w710, hw710⟩ : ∃ x, w709.setRow g708 vr = x := ⟨_, rfl⟩
      obtain ⟨Kw710, Tw710_0, fw710⟩ := st_row Kw709.out hw710 (fun h => absurd h (by omega)) Tw709_0.out
      have Kw710 := Lib.hid Kw710
      have Tw710_0 := Lib.hid Tw710_0
      clear fw710
      rw [hw710]
      clear hw710
      refine hK2.out _ _ Kw710.out (fun hHeld2 => ?_)
      clear hK2 K2
      try simp only [pu]
      refine tk (i := 12) (v := ?v29) rfl ?y29 ?r29
      case y29 => (intro w hSw; (try dsimp only at hSw); go_simp; (try with_reducible rfl))
      try simp only [pu]
      refine wpAnyH_done (by kernel_rfl) ?_ _
      obtain ⟨w3, hnw3⟩ : ∃ y9 : World, w710 = y9 := ⟨_, rfl⟩
      have Bw3 : Hid (Below w1.heap.size w1 w3) := Lib.hid (by rw [← hnw3]; exact But.to_below Kw710.out (Nat.le_refl _) (fun _ _ q => q))
      have TG : Hid (w3.heap[g708]? = some (.cells vr 23 (0, 0))) := Lib.hid (by rw [← hnw3]; exact Tw710_0.out)
      rw [hnw3]
      clear hnw3 hHeld hHeld2
      obtain ⟨g9, hg9⟩ : ∃ y : Nat, g708 = y := ⟨_, rfl⟩
      rw [hg9] at TG ⊢
      clear hg9
      have KS3 : Hid (∀ w', But (fun _ => False) w3 w' → w'.cell? ⟨w.heap.size + 1, 0, none⟩ = some (.int .i64 x) ∧ w'.cell? ⟨w.heap.size + 1, 1, none⟩ = some (.slice A 67 c) ∧ w'.cell? ⟨w.heap.size + 1, 2, none⟩ = some (.slice A2 n c2)) := Lib.hid (fun w' hw => HKSA.out w' ((hw.same _ (by have := Bw3.out.size; omega) (fun q => q)).trans ((Bw3.out.block _ (by omega)).trans ((Bw1.out.block _ (by omega)).trans RS.out))))
      have RV3 : Hid (w3.heap[w.heap.size]? = some (.cells v0 23 (0, 0))) := Lib.hid ((Bw3.out.block _ (by omega)).trans ((Bw1.out.block _ (by omega)).trans RV.out))
      go_upto_region 6 with fail
      refine wp_region_held_drew (S := But (fun _ => False) w3) (by kernel_rfl) (But.refl _ _).drew (fun hHeld => ?_)
      refine tk (i := 0) (v := ?v30) rfl ?y30 ?r30
      case y30 => (intro w hSw; (try dsimp only at hSw); go_simp; (try with_reducible rfl))
      try simp only [pu]
      refine tk (i := 1) (v := ?v31) rfl ?y31 ?r31
      case y31 => (intro w hSw; (try dsimp only at hSw); obtain ⟨z0, z1, z2⟩ := KS3.out w hSw; go_simp; (try with_reducible rfl))
      try simp only [pu]
      refine tk (i := 2) (v := ?v32) rfl ?y32 ?r32
      case y32 => (intro w hSw; (try dsimp only at hSw); go_simp; (try with_reducible rfl))
      try simp only [pu]
      refine tk (i := 3) (v := ?v33) rfl ?y33 ?r33
      case y33 => (intro w hSw; (try dsimp only at hSw); go_simp; (try with_reducible rfl))
      try simp only [pu]
      refine tk (i := 4) (v := ?v34) rfl ?y34 ?r34
      case y34 => (intro w hSw; (try dsimp only at hSw); go_simp; (try with_reducible rfl))
      try simp only [pu]
      refine tw (i := 5) rfl (yieldsIf_load_row (by rfl) 23 _ (by rfl) g9 (by rfl) 23 vr (0, 0) _ (fun w h => (h.same _ (by have := (Array.getElem?_eq_some_iff.1 TG.out).1; exact this) (fun q => q)).trans TG.out) Tryz.underlying23 (by rfl) Ivr.out) ?_
      try simp only [pu]
      refine tk (i := 7) (v := ?v36) rfl ?y36 ?r36
      case y36 => (intro w hSw; (try dsimp only at hSw); go_simp; (try with_reducible rfl))
      try simp only [pu]
      refine tk (i := 8) (v := ?v37) rfl ?y37 ?r37
      case y37 => (intro w hSw; (try dsimp only at hSw); obtain ⟨z0, z1, z2⟩ := KS3.out w hSw; go_simp; (try with_reducible rfl))
      try simp only [pu]
      refine tw (i := 9) rfl (yieldsIf_load_row (by rfl) 23 _ (by rfl) w.heap.size (by rfl) 23 v0 (0, 0) _ (fun w h => (h.same _ (by have := (Array.getElem?_eq_some_iff.1 RV3.out).1; exact this) (fun q => q)).trans RV3.out) Tryz.underlying23 (by rfl) Iv0.out) ?_
      try simp only [pu]
      refine wpAnyH_ready (rs := [6]) (by kernel_rfl) (by simp) ?_
      refine AllReadyH.cons (i := 6) rfl (fun K2 hK2 => ?_) AllReadyH.nil
      go_simp
      go_at_call 37
      refine (HKL.out w3.drew (Bw3.out.trans (But.to_below ((But.refl (fun _ => False) w3).drew) Bw3.out.size (fun _ _ q => q)))).mono ?_
      rintro ev w711 ⟨rfl, bw711⟩
      try go_wp2_with fail
      obtain ⟨Kw711, fw711⟩ := st_call ((But.refl (fun _ => False) w3).drew) bw711
      have Kw711 := Lib.hid Kw711
      clear bw711 fw711
      refine hK2.out _ _ Kw711.out (fun hHeld2 => ?_)
      clear hK2 K2
      try simp only [pu]
      refine wpAnyH_ready (rs := [10]) (by kernel_rfl) (by simp) ?_
      refine AllReadyH.cons (i := 10) rfl (fun K2 hK2 => ?_) AllReadyH.nil
      go_simp
      go_at_call 36
      refine (HIN.out w711 (Bw3.out.trans (But.to_below Kw711.out Bw3.out.size (fun _ _ q => q)))).mono ?_
      rintro ev w712 ⟨rfl, bw712⟩
      try go_wp2_with fail
      obtain ⟨Kw712, fw712⟩ := st_call Kw711.out bw712
      have Kw712 := Lib.hid Kw712
      clear bw712 fw712
      refine hK2.out _ _ Kw712.out (fun hHeld2 => ?_)
      clear hK2 K2
      try simp only [pu]
      refine tk (i := 11) (v := ?v39) rfl ?y39 ?r39
      case y39 => (intro w hSw; (try dsimp only at hSw); go_simp; (try with_reducible rfl))
      try simp only [pu]
      refine wpAnyH_done (by kernel_rfl) ?_ _
      obtain ⟨w6, hnw6⟩ : ∃ y9 : World, w712 = y9 := ⟨_, rfl⟩
      have Bw6 : Hid (Below w3.heap.size w3 w6) := Lib.hid (by rw [← hnw6]; exact But.to_below Kw712.out (Nat.le_refl _) (fun _ _ q => q))
      rw [hnw6]
      clear hnw6 hHeld hHeld2
      go_wp2_with fail
      go_ret
      exact ⟨rfl, HBv.out.trans ((Bw1.out.trans ((Bw3.out.trans (Bw6.out.mono Bw3.out.size)).mono Bw1.out.size)).mono HBv.out.size)⟩
    
    exact AllReadyH.nil

  refine AllReadyH.cons (i := 10) rfl (fun K2 hK2 => ?_) ?more40
  · skip
    go_simp
    obtain ⟨w713, hw713⟩ : ∃ x, (w1.alloc (.cells (List.replicate 32 (Value.int .u8 0)).toArray 23)).drew = x := ⟨_, rfl⟩
    obtain ⟨g713, hg713⟩ : ∃ x, w1.heap.size = x := ⟨_, rfl⟩
    obtain ⟨Kw713, Tw713_0, qw713, fw713⟩ := st_alloc ((But.refl (fun _ => False) w1).drew) hw713 hg713
    simp only [List.replicate] at hw713; rw [hw713, hg713]; clear hw713 hg713
    have Kw713 := Lib.hid Kw713
    have Tw713_0 := Lib.hid Tw713_0
    clear fw713
    refine hK2.out _ _ Kw713.out (fun hHeld2 => ?_)
    clear hK2 K2
    try simp only [pu]
    refine wpAnyH_ready (rs := [3]) (by kernel_rfl) (by simp) ?_
    refine AllReadyH.cons (i := 3) rfl (fun K2 hK2 => ?_) AllReadyH.nil
    go_simp
    go_at_call 35
    refine (HME.out w713 (But.to_below Kw713.out (Nat.le_refl _) (fun _ _ q => q))).mono ?_
    rintro ev w714 ⟨rfl, bw714⟩
    try go_wp2_with fail
    obtain ⟨Kw714, fw714⟩ := st_call Kw713.out bw714
    have Kw714 := Lib.hid Kw714
    have Tw714_0 := Lib.hid (fw714 _ _ Tw713_0.out)
    clear bw714 fw714
    refine hK2.out _ _ Kw714.out (fun hHeld2 => ?_)
    clear hK2 K2
    try simp only [pu]
    refine wpAnyH_ready (rs := [6]) (by kernel_rfl) (by simp) ?_
    refine AllReadyH.cons (i := 6) rfl (fun K2 hK2 => ?_) AllReadyH.nil
    go_simp
    go_at_call 34
    refine (HRC.out w714 (But.to_below Kw714.out (Nat.le_refl _) (fun _ _ q => q))).mono ?_
    rintro ev w715 ⟨rfl, bw715⟩
    try go_wp2_with fail
    obtain ⟨Kw715, fw715⟩ := st_call Kw714.out bw715
    have Kw715 := Lib.hid Kw715
    have Tw715_0 := Lib.hid (fw715 _ _ Tw714_0.out)
    clear bw715 fw715
    refine hK2.out _ _ Kw715.out (fun hHeld2 => ?_)
    clear hK2 K2
    try simp only [pu]
    refine tk (i := 7) (v := ?v41) rfl ?y41 ?r41
    case y41 => (intro w hSw; (try dsimp only at hSw); go_simp; (try with_reducible rfl))
    try simp only [pu]
    refine tk (i := 8) (v := ?v42) rfl ?y42 ?r42
    case y42 => (intro w hSw; (try dsimp only at hSw); go_simp; (try with_reducible rfl))
    try simp only [pu]
    refine tk (i := 9) (v := ?v43) rfl ?y43 ?r43
    case y43 => (intro w hSw; (try dsimp only at hSw); go_simp; (try with_reducible rfl))
    try simp only [pu]
    refine wpAnyH_ready (rs := [11]) (by kernel_rfl) (by simp) ?_
    refine AllReadyH.cons (i := 11) rfl (fun K2 hK2 => ?_) AllReadyH.nil
    rw [if_pos (by rfl)]
    refine wp_store_row 23 _ _ rfl g713 vr rfl rfl 23 _ Tw715_0.out Ivr.out (by rw [Zvr.out]; rfl) Ovr.out ?_
    obtain ⟨w716, hw716⟩ : ∃ x, w715.setRow g713 vr = x := ⟨_, rfl⟩
    obtain ⟨Kw716, Tw716_0, fw716⟩ := st_row Kw715.out hw716 (fun h => absurd h (by omega)) Tw715_0.out
    have Kw716 := Lib.hid Kw716
    have Tw716_0 := Lib.hid Tw716_0
    clear fw716
    rw [hw716]
    clear hw716
    refine hK2.out _ _ Kw716.out (fun hHeld2 => ?_)
    clear hK2 K2
    try simp only [pu]
    refine tk (i := 12) (v := ?v44) rfl ?y44 ?r44
    case y44 => (intro w hSw; (try dsimp only at hSw); go_simp; (try with_reducible rfl))
    try simp only [pu]
    refine wpAnyH_done (by kernel_rfl) ?_ _
    obtain ⟨w3, hnw3⟩ : ∃ y9 : World, w716 = y9 := ⟨_, rfl⟩
    have Bw3 : Hid (Below w1.heap.size w1 w3) := Lib.hid (by rw [← hnw3]; exact But.to_below Kw716.out (Nat.le_refl _) (fun _ _ q => q))
    have TG : Hid (w3.heap[g713]? = some (.cells vr 23 (0, 0))) := Lib.hid (by rw [← hnw3]; exact Tw716_0.out)
    rw [hnw3]
    clear hnw3 hHeld hHeld2
    obtain ⟨g9, hg9⟩ : ∃ y : Nat, g713 = y := ⟨_, rfl⟩
    rw [hg9] at TG ⊢
    clear hg9
    have KS3 : Hid (∀ w', But (fun _ => False) w3 w' → w'.cell? ⟨w.heap.size + 1, 0, none⟩ = some (.int .i64 x) ∧ w'.cell? ⟨w.heap.size + 1, 1, none⟩ = some (.slice A 67 c) ∧ w'.cell? ⟨w.heap.size + 1, 2, none⟩ = some (.slice A2 n c2)) := Lib.hid (fun w' hw => HKSA.out w' ((hw.same _ (by have := Bw3.out.size; omega) (fun q => q)).trans ((Bw3.out.block _ (by omega)).trans ((Bw1.out.block _ (by omega)).trans RS.out))))
    have RV3 : Hid (w3.heap[w.heap.size]? = some (.cells v0 23 (0, 0))) := Lib.hid ((Bw3.out.block _ (by omega)).trans ((Bw1.out.block _ (by omega)).trans RV.out))
    go_upto_region 6 with fail
    refine wp_region_held_drew (S := But (fun _ => False) w3) (by kernel_rfl) (But.refl _ _).drew (fun hHeld => ?_)
    refine tk (i := 0) (v := ?v45) rfl ?y45 ?r45
    case y45 => (intro w hSw; (try dsimp only at hSw); go_simp; (try with_reducible rfl))
    try simp only [pu]
    refine tk (i := 1) (v := ?v46) rfl ?y46 ?r46
    case y46 => (intro w hSw; (try dsimp only at hSw); obtain ⟨z0, z1, z2⟩ := KS3.out w hSw; go_simp; (try with_reducible rfl))
    try simp only [pu]
    refine tk (i := 2) (v := ?v47) rfl ?y47 ?r47
    case y47 => (intro w hSw; (try dsimp only at hSw); go_simp; (try with_reducible rfl))
    try simp only [pu]
    refine tk (i := 3) (v := ?v48) rfl ?y48 ?r48
    case y48 => (intro w hSw; (try dsimp only at hSw); go_simp; (try with_reducible rfl))
    try simp only [pu]
    refine tk (i := 4) (v := ?v49) rfl ?y49 ?r49
    case y49 => (intro w hSw; (try dsimp only at hSw); go_simp; (try with_reducible rfl))
    try simp only [pu]
    refine tw (i := 5) rfl (yieldsIf_load_row (by rfl) 23 _ (by rfl) g9 (by rfl) 23 vr (0, 0) _ (fun w h => (h.same _ (by have := (Array.getElem?_eq_some_iff.1 TG.out).1; exact this) (fun q => q)).trans TG.out) Tryz.underlying23 (by rfl) Ivr.out) ?_
    try simp only [pu]
    refine tk (i := 7) (v := ?v51) rfl ?y51 ?r51
    case y51 => (intro w hSw; (try dsimp only at hSw); go_simp; (try with_reducible rfl))
    try simp only [pu]
    refine tk (i := 8) (v := ?v52) rfl ?y52 ?r52
    case y52 => (intro w hSw; (try dsimp only at hSw); obtain ⟨z0, z1, z2⟩ := KS3.out w hSw; go_simp; (try with_reducible rfl))
    try simp only [pu]
    refine tw (i := 9) rfl (yieldsIf_load_row (by rfl) 23 _ (by rfl) w.heap.size (by rfl) 23 v0 (0, 0) _ (fun w h => (h.same _ (by have := (Array.getElem?_eq_some_iff.1 RV3.out).1; exact this) (fun q => q)).trans RV3.out) Tryz.underlying23 (by rfl) Iv0.out) ?_
    try simp only [pu]
    refine wpAnyH_ready (rs := [6]) (by kernel_rfl) (by simp) ?_
    refine AllReadyH.cons (i := 6) rfl (fun K2 hK2 => ?_) AllReadyH.nil
    go_simp
    go_at_call 37
    refine (HKL.out w3.drew (Bw3.out.trans (But.to_below ((But.refl (fun _ => False) w3).drew) Bw3.out.size (fun _ _ q => q)))).mono ?_
    rintro ev w717 ⟨rfl, bw717⟩
    try go_wp2_with fail
    obtain ⟨Kw717, fw717⟩ := st_call ((But.refl (fun _ => False) w3).drew) bw717
    have Kw717 := Lib.hid Kw717
    clear bw717 fw717
    refine hK2.out _ _ Kw717.out (fun hHeld2 => ?_)
    clear hK2 K2
    try simp only [pu]
    refine wpAnyH_ready (rs := [10]) (by kernel_rfl) (by simp) ?_
    refine AllReadyH.cons (i := 10) rfl (fun K2 hK2 => ?_) AllReadyH.nil
    go_simp
    go_at_call 36
    refine (HIN.out w717 (Bw3.out.trans (But.to_below Kw717.out Bw3.out.size (fun _ _ q => q)))).mono ?_
    rintro ev w718 ⟨rfl, bw718⟩
    try go_wp2_with fail
    obtain ⟨Kw718, fw718⟩ := st_call Kw717.out bw718
    have Kw718 := Lib.hid Kw718
    clear bw718 fw718
    refine hK2.out _ _ Kw718.out (fun hHeld2 => ?_)
    clear hK2 K2
    try simp only [pu]
    refine tk (i := 11) (v := ?v54) rfl ?y54 ?r54
    case y54 => (intro w hSw; (try dsimp only at hSw); go_simp; (try with_reducible rfl))
    try simp only [pu]
    refine wpAnyH_done (by kernel_rfl) ?_ _
    obtain ⟨w6, hnw6⟩ : ∃ y9 : World, w718 = y9 := ⟨_, rfl⟩
    have Bw6 : Hid (Below w3.heap.size w3 w6) := Lib.hid (by rw [← hnw6]; exact But.to_below Kw718.out (Nat.le_refl _) (fun _ _ q => q))
    rw [hnw6]
    clear hnw6 hHeld hHeld2
    go_wp2_with fail
    go_ret
    exact ⟨rfl, HBv.out.trans ((Bw1.out.trans ((Bw3.out.trans (Bw6.out.mono Bw3.out.size)).mono Bw1.out.size)).mono HBv.out.size)⟩

  exact AllReadyH.nil

end Go.Proofs.YtnpblpbcchminaaGreatDoor
