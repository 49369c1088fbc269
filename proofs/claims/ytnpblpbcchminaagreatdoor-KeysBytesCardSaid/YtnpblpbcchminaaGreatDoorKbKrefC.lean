import Derived.Test.YtnpblpbcchminaaGreatDoorKbKeysMay
import Derived.Test.YtnpblpbcchminaaGreatDoorKbKeysLives
import Derived.Test.YtnpblpbcchminaaGreatDoorKbRefNode
/- cartularyref22.bytes, On, Close; cartularyref05.Leaf; cartularyref23.May, Leaf. Condition: the table reads as listed. -/
namespace Go.Proofs.YtnpblpbcchminaaGreatDoor
open Go.ChangeShapes Go.WideShapes Go.ChangeAt Go.RowKit
set_option linter.unusedVariables false

set_option maxRecDepth 100000 in
set_option maxHeartbeats 8000000 in
theorem rmay_any (x : Int) (m n : Nat) (A A2 : Option Addr) (c c2 : Nat) (w : World) :
    Calls Tryz.prog 38 #[.agg #[.int .i64 x, .slice A m c, .slice A2 n c2]] w fun ev w' => ev = .returned (.bool (decide (0 ≤ x ∧ x < 64 ∧ m = 67 ∧ n ≤ 6))) ∧ Below w.heap.size w w' := by
  obtain ⟨wv, hwv⟩ : ∃ y9 : World, (w.alloc (.cells #[.int .i64 x, .slice A m c, .slice A2 n c2] 26)) = y9 := ⟨_, rfl⟩
  have HBv : Hid (Below w.heap.size w wv) := Lib.hid (by rw [← hwv]; exact ((Below.refl _ _).alloc (by simp <;> omega) _))
  have HSV : Hid (wv.heap.size = w.heap.size + 1) := Lib.hid (by rw [← hwv]; simp)
  have RZ : Hid (wv.heap[w.heap.size]? = some (.cells #[.int .i64 x, .slice A m c, .slice A2 n c2] 26 (0, 0))) := Lib.hid (by rw [← hwv]; exact heap_at _ _ _ (by simp <;> omega))
  have HWV := Lib.hid hwv
  have c0 : wv.cell? ⟨w.heap.size, 0, none⟩ = some (.int .i64 x) := (cell_of_row wv w.heap.size 0 _ 26 (0, 0) RZ.out).trans rfl
  have c1 : wv.cell? ⟨w.heap.size, 1, none⟩ = some (.slice A m c) := (cell_of_row wv w.heap.size 1 _ 26 (0, 0) RZ.out).trans rfl
  have c2' : wv.cell? ⟨w.heap.size, 2, none⟩ = some (.slice A2 n c2) := (cell_of_row wv w.heap.size 2 _ 26 (0, 0) RZ.out).trans rfl
  clear hwv
  by_cases h0 : 0 ≤ x
  · have d0 : decide (0 ≤ x) = true := by simp; exact h0
    by_cases h1 : x < 64
    · have d1 : decide (x ≤ 63) = true := by simp; omega
      by_cases h2 : m = 67
      · have d2 : ((m : Int) == 67) = true := by simp; omega
        have d2n : (m == 67) = true := by simp; omega
        have he : decide (0 ≤ x ∧ x < 64 ∧ m = 67 ∧ n ≤ 6) = decide (n ≤ 6) := by
          by_cases h3 : n ≤ 6 <;> simp [h0, h1, h2, h3]
        have hn : decide ((n : Int) ≤ 6) = decide (n ≤ 6) := by by_cases h3 : n ≤ 6 <;> simp [h3] <;> omega
        rw [he]
        clear h0 h1 h2 he
        go_enter Tryz.func38, Tryz.ntmps38
        go_upto_region 1 with fail
        rw [HWV.out]
        go_wp2_with fail
        go_ret
        exact ⟨by first | rfl | (simp only [hn]; rfl) | simp [hn], HBv.out⟩
      · have d2 : ((m : Int) == 67) = false := by simp; omega
        have d2n : (m == 67) = false := by simp; omega
        have he : decide (0 ≤ x ∧ x < 64 ∧ m = 67 ∧ n ≤ 6) = false := by simp [h2]
        rw [he]
        clear h0 h1 h2 he
        go_enter Tryz.func38, Tryz.ntmps38
        go_upto_region 1 with fail
        rw [HWV.out]
        go_wp2_with fail
        go_ret
        exact ⟨rfl, HBv.out⟩
    · have d1 : decide (x ≤ 63) = false := by simp; omega
      have he : decide (0 ≤ x ∧ x < 64 ∧ m = 67 ∧ n ≤ 6) = false := by simp; omega
      rw [he]
      clear h0 h1 he
      go_enter Tryz.func38, Tryz.ntmps38
      go_upto_region 1 with fail
      rw [HWV.out]
      go_wp2_with fail
      go_ret
      exact ⟨rfl, HBv.out⟩
  · have d0 : decide (0 ≤ x) = false := by simp; omega
    have he : decide (0 ≤ x ∧ x < 64 ∧ m = 67 ∧ n ≤ 6) = false := by simp; omega
    rw [he]
    clear h0 he
    go_enter Tryz.func38, Tryz.ntmps38
    go_upto_region 1 with fail
    rw [HWV.out]
    go_wp2_with fail
    go_ret
    exact ⟨rfl, HBv.out⟩

/-- a hash as a text -/
def txtB (h : List UInt8) : ByteArray := ⟨h.toArray⟩
theorem bOf_txtB (h : List UInt8) : bOf (txtB h) = h := by simp [bOf, txtB]
theorem txtB_size (h : List UInt8) : (txtB h).size = h.length := by show h.toArray.size = _; simp
theorem bOf_app (a b : ByteArray) : bOf (a ++ b) = bOf a ++ bOf b := by simp [bOf]
set_option maxRecDepth 100000 in
set_option maxHeartbeats 8000000 in
theorem bytes5_any (p : List UInt8) (w : World) (hp : p.length = 32) : Calls Tryz.prog 108 #[hv p] w fun ev w' => ev = .returned (.string (txtB p)) ∧ Below w.heap.size w w' := by
  obtain ⟨v0, ev0, Hv0, Zv0, Iv0, Ov0⟩ := row_of p hp
  obtain ⟨wv, hwv⟩ : ∃ y9 : World, (w.alloc (.cells v0 23)) = y9 := ⟨_, rfl⟩
  have HBv : Hid (Below w.heap.size w wv) := Lib.hid (by rw [← hwv]; exact ((Below.refl _ _).alloc (by simp <;> omega) _))
  have HSV : Hid (wv.heap.size = w.heap.size + 1) := Lib.hid (by rw [← hwv]; simp)
  have RA : Hid (wv.heap[w.heap.size]? = some (.cells v0 23 (0, 0))) := Lib.hid (by rw [← hwv]; exact heap_at _ _ _ (by simp <;> omega))
  have HWV := Lib.hid hwv
  have HBY : Hid (Calls Tryz.prog 171 #[.agg v0] wv fun ev w' => ev = .returned (.string (txtB p)) ∧ Below wv.heap.size wv w') := Lib.hid (by
    have := hbytes_any p wv hp
    rw [ev0] at this; exact this)
  obtain ⟨s1, hs1⟩ : ∃ t : ByteArray, txtB p = t := ⟨_, rfl⟩
  rw [hs1] at HBY
  rw [ev0, hs1]
  clear hp ev0 hwv hs1
  go_enter Tryz.func108, Tryz.ntmps108
  go_upto_region 1 with fail
  rw [HWV.out]
  go_wp2_with (refine wpList_load_row rfl 23 _ rfl w.heap.size rfl 23 v0 (0, 0) _ RA.out Tryz.underlying23 rfl Iv0.out ?_)
  refine HBY.out.mono ?_
  rintro ev w1 ⟨rfl, b1⟩
  have B1 := Lib.hid (HBv.out.trans (b1.mono HBv.out.size))
  clear b1
  go_wp2_with fail
  go_ret
  exact ⟨rfl, B1.out⟩
end Go.Proofs.YtnpblpbcchminaaGreatDoor
/- cartularyref02.Fixed in four bytes; cartularyref23.four, Message. Condition: the table reads as listed. -/
namespace Go.Proofs.YtnpblpbcchminaaGreatDoor
open Go.ChangeShapes Go.WideShapes Go.ChangeAt Go.RowKit
set_option linter.unusedVariables false

theorem results_tmp_row {P : Program} {fn : Func} {p u : Tmp} {ty : TypeId} (h : fn.results = #[.tmp u, .cell p ty]) (tmps : Array Value) (w : World) (g : Nat) (t : TypeId) (cs : Array Value) (fr : Nat × Nat) (d : TypeDesc)
    (hp : tmps.getD p undef = .pointer (some ⟨g, 0, none⟩)) (hg : w.heap[g]? = some (.cells cs t fr))
    (hu : P.underlying ty = some d) (hd : (match d with | .struct _ | .array _ _ => true | _ => false) = true) (hi : (P.info? ty).map (·.size) = some cs.size) (x : Value) (hx : tmps.getD u undef = x) :
    (results fn tmps).run P w = .ok (.tuple #[x, .agg cs]) w := by
  subst hx
  rw [Array.getD_eq_getD_getElem?] at hp
  simp only [results, h]
  simp [hp, asAddr, run_loadVar_row w g t ty cs fr d hg hu hd hi, Result.andThen]

end Go.Proofs.YtnpblpbcchminaaGreatDoor
