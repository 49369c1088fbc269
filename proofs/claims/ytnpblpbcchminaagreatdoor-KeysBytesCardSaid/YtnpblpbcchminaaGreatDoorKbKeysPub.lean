import Derived.Test.YtnpblpbcchminaaGreatDoorKbKeysNew
/- keys: Public, Left, Sign. Condition: the table reads as listed. -/
namespace Go.Proofs.YtnpblpbcchminaaGreatDoor
open Go.ChangeShapes Go.WideShapes Go.ChangeAt Go.RowKit
set_option linter.unusedVariables false

set_option maxRecDepth 100000 in
set_option maxHeartbeats 8000000 in
theorem kpub_any (b : Nat) (s : List UInt8) (f : Nat → List (List UInt8)) (n x : Nat) (v0 : Array Value) (ls : List Value) (w : World) (h : KAt w b s f n x v0 ls) (hn : n ≤ 6) (p : List UInt8) (hp : (f n)[0]? = some p) :
    Calls Tryz.prog 23 #[.pointer (some ⟨b, 0, none⟩)] w fun ev w' => ev = .returned (hv p) ∧ Below w.heap.size w w' := by
  have hbl := h.lt
  obtain ⟨wv, hwv⟩ : ∃ y9 : World, (w.alloc (.cells #[.int .u8 0, .int .u8 0, .int .u8 0, .int .u8 0, .int .u8 0, .int .u8 0, .int .u8 0, .int .u8 0, .int .u8 0, .int .u8 0, .int .u8 0, .int .u8 0, .int .u8 0, .int .u8 0, .int .u8 0, .int .u8 0, .int .u8 0, .int .u8 0, .int .u8 0, .int .u8 0, .int .u8 0, .int .u8 0, .int .u8 0, .int .u8 0, .int .u8 0, .int .u8 0, .int .u8 0, .int .u8 0, .int .u8 0, .int .u8 0, .int .u8 0, .int .u8 0] 23)) = y9 := ⟨_, rfl⟩
  have HBv : Hid (Below w.heap.size w wv) := Lib.hid (by rw [← hwv]; exact ((Below.refl _ _).alloc (by simp <;> omega) _))
  have HSV : Hid (wv.heap.size = w.heap.size + 1) := Lib.hid (by rw [← hwv]; simp)
  have RB : Hid (wv.heap[w.heap.size]? = some (.cells #[.int .u8 0, .int .u8 0, .int .u8 0, .int .u8 0, .int .u8 0, .int .u8 0, .int .u8 0, .int .u8 0, .int .u8 0, .int .u8 0, .int .u8 0, .int .u8 0, .int .u8 0, .int .u8 0, .int .u8 0, .int .u8 0, .int .u8 0, .int .u8 0, .int .u8 0, .int .u8 0, .int .u8 0, .int .u8 0, .int .u8 0, .int .u8 0, .int .u8 0, .int .u8 0, .int .u8 0, .int .u8 0, .int .u8 0, .int .u8 0, .int .u8 0, .int .u8 0] 23 (0, 0))) := Lib.hid (by rw [← hwv]; exact heap_at _ _ _ (by simp <;> omega))
  have HWV := Lib.hid hwv
  have hK : ∀ w', But (· = w.heap.size) wv w' → KAt w' b s f n x v0 ls := fun w' hw => h.below (HBv.out.trans (But.to_below hw HBv.out.size (fun k hk q => by omega)))
  obtain ⟨A, m, c, hc0, hl0⟩ := (hK wv (But.refl _ _)).list (show n < 7 by omega)
  obtain ⟨g, o, rfl, -, -, hp32⟩ := hl0.row hp
  obtain ⟨vp, evp, Hvp, Zvp, Ivp, Ovp⟩ := row_of p hp32
  obtain ⟨lp, hlp⟩ : ∃ q, bytesV p = q := ⟨_, rfl⟩
  have Elp : Hid (vp = lp.toArray) := Lib.hid (by rw [← hlp]; exact Hvp.out.symm)
  have Ilp : Hid ((Tryz.prog.info? 23).map (·.size) = some lp.length) := Lib.hid (by rw [← hlp, bytesV_length, hp32]; kernel_rfl)
  have hm0 : 0 < m := by have := (List.getElem?_eq_some_iff.1 hp).1; have := hl0.2.1; omega
  have KC : Hid (∀ w', But (· = w.heap.size) wv w' → w'.cell? ⟨b, 39, none⟩ = some (.int .i64 n) ∧ w'.cell? ⟨b, 40, none⟩ = some (.int .i64 x) ∧ w'.cell? ⟨b, 41, none⟩ = some (.bool true)) := Lib.hid (fun w' hw => (hK w' hw).cells)
  have KL : Hid (∀ w', But (· = w.heap.size) wv w' → w'.cell? ⟨b, 32 + n, none⟩ = some (.slice (some ⟨g, o, none⟩) m c)) := Lib.hid (fun w' hw => by
    rw [← hc0, cell_of_row wv b _ _ 51 (0, 0) (hK wv (But.refl _ _)).row, cell_of_row w' b _ _ 51 (0, 0) (hK w' hw).row])
  have KP : Hid (∀ w', But (· = w.heap.size) wv w' → w'.rangeAt g o lp) := Lib.hid (fun w' hw => by
    obtain ⟨A2, m2, c2, hc2, hl2⟩ := (hK w' hw).list (show n < 7 by omega)
    rw [KL.out w' hw] at hc2
    cases hc2
    obtain ⟨g2, o2, e, -, r, -⟩ := hl2.row hp
    cases e
    rw [← hlp]; simpa using r)
  obtain ⟨z39, z40, z41⟩ := KC.out wv (But.refl _ _)
  have i0 : (0 : Int) ≤ n := by omega
  have i1 : (n : Int) < 7 := by omega
  have i2 : (0 : Int) < m := by omega
  rw [evp, Elp.out]
  rw [Elp.out] at Ivp Zvp Ovp
  obtain ⟨vq, hvq⟩ : ∃ q, lp.toArray = q := ⟨_, rfl⟩
  have HVQ := Lib.hid hvq
  clear hK h hl0 hp hc0 hlp evp hwv
  go_enter Tryz.func23, Tryz.ntmps23
  go_upto_region 1 with fail
  rw [HWV.out]
  go_wp2_with fail
  refine wp_region_held_drew (S := But (· = w.heap.size) wv) (by kernel_rfl) (But.refl _ _).drew (fun hHeld => ?_)
  refine tk (i := 0) (v := ?v1) rfl ?y1 ?r1
  case y1 => (intro w hSw; (try dsimp only at hSw); go_simp; (try with_reducible rfl))
  try simp only [pu]
  refine tk (i := 1) (v := ?v2) rfl ?y2 ?r2
  case y2 => (intro w hSw; (try dsimp only at hSw); go_simp; (try with_reducible rfl))
  try simp only [pu]
  refine tk (i := 2) (v := ?v3) rfl ?y3 ?r3
  case y3 => (intro w hSw; (try dsimp only at hSw); go_simp; (try with_reducible rfl))
  try simp only [pu]
  refine tk (i := 3) (v := ?v4) rfl ?y4 ?r4
  case y4 => (intro w hSw; (try dsimp only at hSw); go_simp; (try with_reducible rfl))
  try simp only [pu]
  refine tk (i := 4) (v := ?v5) rfl ?y5 ?r5
  case y5 => (intro w hSw; (try dsimp only at hSw); obtain ⟨z0, z1, z2⟩ := KC.out w hSw; go_simp; (try with_reducible rfl))
  try simp only [pu]
  refine tk (i := 5) (v := ?v6) rfl ?y6 ?r6
  case y6 => (intro w hSw; (try dsimp only at hSw); go_simp; (try with_reducible rfl))
  try simp only [pu]
  refine tk (i := 6) (v := ?v7) rfl ?y7 ?r7
  case y7 => (intro w hSw; (try dsimp only at hSw); go_simp; (try with_reducible rfl))
  try simp only [pu]
  refine tk (i := 7) (v := ?v8) rfl ?y8 ?r8
  case y8 => (intro w hSw; (try dsimp only at hSw); go_simp; (try with_reducible rfl))
  try simp only [pu]
  refine tk (i := 8) (v := ?v9) rfl ?y9 ?r9
  case y9 => (intro w hSw; (try dsimp only at hSw); have z0 := KL.out w hSw; go_simp; (try with_reducible rfl))
  try simp only [pu]
  refine tk (i := 9) (v := ?v10) rfl ?y10 ?r10
  case y10 => (intro w hSw; (try dsimp only at hSw); go_simp; (try with_reducible rfl))
  try simp only [pu]
  refine tw (i := 10) rfl (yieldsIf_load_mid (by rfl) 23 _ (by rfl) g o (by rfl) lp _ (fun w h => KP.out w h) Tryz.underlying23 (by rfl) Ilp.out) ?_
  try simp only [pu]
  refine wpAnyH_ready (rs := [11]) (by kernel_rfl) (by simp) ?_
  refine AllReadyH.cons (i := 11) rfl (fun K2 hK2 => ?_) AllReadyH.nil
  rw [if_pos (by rfl)]
  refine wp_store_row 23 _ _ rfl w.heap.size lp.toArray rfl rfl 23 _ (show wv.drew.heap[w.heap.size]? = _ from RB.out) Ivp.out (by rw [Zvp.out]; rfl) Ovp.out ?_
  obtain ⟨w701, hw701⟩ : ∃ x, wv.drew.setRow w.heap.size lp.toArray = x := ⟨_, rfl⟩
  obtain ⟨Kw701, Tw701_0, fw701⟩ := st_row ((But.refl (· = w.heap.size) wv).drew) hw701 (fun _ => rfl) (show wv.drew.heap[w.heap.size]? = _ from RB.out)
  have Kw701 := Lib.hid Kw701
  have Tw701_0 := Lib.hid Tw701_0
  clear fw701
  rw [hw701]
  clear hw701
  refine hK2.out _ _ Kw701.out (fun hHeld2 => ?_)
  clear hK2 K2
  try simp only [pu]
  refine wpAnyH_done (by kernel_rfl) ?_ _
  go_wp2
  refine bodyPost_ret (v := .agg lp.toArray) (results_cell_row rfl _ _ w.heap.size 23 lp.toArray (0, 0) _ rfl Tw701_0.out Tryz.underlying23 rfl Ivp.out) rfl ⟨rfl, HBv.out.trans (But.to_below Kw701.out HBv.out.size (fun k hk q => by omega))⟩

set_option maxRecDepth 100000 in
set_option maxHeartbeats 8000000 in
theorem kleft_any (b : Nat) (s : List UInt8) (f : Nat → List (List UInt8)) (n x : Nat) (v0 : Array Value) (ls : List Value) (w : World) (h : KAt w b s f n x v0 ls) (hn : n ≤ 6) (hx : x ≤ 2 ^ n) :
    Calls Tryz.prog 24 #[.pointer (some ⟨b, 0, none⟩)] w fun ev w' => ev = .returned (.int .i64 ((2 ^ n - x : Nat) : Int)) ∧ Below w.heap.size w w' := by
  obtain ⟨z39, z40, z41⟩ := h.cells
  obtain ⟨P, hPP⟩ : ∃ P, 2 ^ n = P := ⟨_, rfl⟩
  have hP : (2 : Nat) ^ n ≤ 64 := Nat.pow_le_pow_right (n := 2) (by omega) (show n ≤ 6 from hn)
  have e4 : wrap64 ((2 : Int) ^ n) = (P : Int) := by
    rw [← hPP, show ((2 : Int) ^ n) = ((2 ^ n : Nat) : Int) by push_cast; rfl]
    exact IntWalk.wrap64_in _ (by omega)
  rw [hPP] at hP hx ⊢
  have e5 : IntKind.i64.wrap ((P : Int) - x) = ((P - x : Nat) : Int) := by rw [IntWalk.i64_in _ (by omega)]; omega
  have i0 : (0 : Int) ≤ n := by omega
  clear h hPP
  go_enter Tryz.func24, Tryz.ntmps24
  go_upto_region 3 with fail
  go_quiet (fail)
  go_wp2
  go_ret
  exact ⟨by first | rfl | rw [e5], below_drewN (Below.refl _ _)⟩

end Go.Proofs.YtnpblpbcchminaaGreatDoor
