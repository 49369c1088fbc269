/- codec.Writer: NewWriter, put, Var of small numbers, Hash, Done. Condition: the table reads as listed. -/
import Derived.Deep.AppendLies
import Derived.Test.YtnpblpbcchminaaDoorKeysRows
namespace Go.Proofs.YtnpblpbcchminaaDoor
open Go.ChangeShapes Go.WideShapes Go.ChangeAt Go.RowKit
set_option linter.unusedVariables false
/-- a writer in block p that holds the bytes xs -/
def WAt (p : Nat) (w : World) (xs : List UInt8) : Prop := ∃ v, w.heap[p]? = some (.cells #[v, .bool true] 94 (0, 0)) ∧ w.ownsRow (p + 1) 5 1 v xs.length (bytesV xs)
theorem WAt.lt {p : Nat} {w : World} {xs : List UInt8} (h : WAt p w xs) : p < w.heap.size := by
  obtain ⟨v, h1, -⟩ := h
  exact (Array.getElem?_eq_some_iff.1 h1).1
theorem WAt.below {p : Nat} {w w' : World} {xs : List UInt8} (h : WAt p w xs) (hb : Below w.heap.size w w') : WAt p w' xs := by
  obtain ⟨v, h1, h2⟩ := h
  exact ⟨v, (hb.block _ (Array.getElem?_eq_some_iff.1 h1).1).trans h1, own_below h2 hb (Nat.le_refl _)⟩
set_option maxRecDepth 100000 in
set_option maxHeartbeats 8000000 in
theorem wnew_any (w : World) : Calls Tryd.prog 30 #[] w fun ev w' => ev = .returned (.pointer (some ⟨w.heap.size, 0, none⟩)) ∧ WAt w.heap.size w' [] ∧ Below w.heap.size w w' := by
  go_enter Tryd.func30, Tryd.ntmps30
  go_wp2
  go_ret
  exact ⟨rfl, ⟨.slice none 0 0, heap_at _ _ _ rfl, World.ownsRow_nil _ _ _ _⟩, (Below.refl _ _).alloc (Nat.le_refl _) _⟩
set_option maxRecDepth 100000 in
set_option maxHeartbeats 8000000 in
theorem put_any (p g o m cap : Nat) (xs ys : List UInt8) (w : World) (h : WAt p w xs) (hy : w.rangeAt g o (bytesV ys)) (hm : ys.length = m) (h0 : 0 < m) (hx9 : xs.length ≤ 1000000) (hm9 : m ≤ 1000000) :
    Calls Tryd.prog 49 #[.pointer (some ⟨p, 0, none⟩), .slice (some ⟨g, o, none⟩) m cap] w fun ev w' => ev = .returned (.tuple #[]) ∧ WAt p w' (xs ++ ys) ∧ Below p w w' := by
  obtain ⟨v, hrow, hown⟩ := h
  have hp : p < w.heap.size := (Array.getElem?_eq_some_iff.1 hrow).1
  have c0 : w.cell? ⟨p, 0, none⟩ = some v := (cell_of_row w p 0 _ 94 (0, 0) hrow).trans rfl
  have c1 : w.cell? ⟨p, 1, none⟩ = some (.bool true) := (cell_of_row w p 1 _ 94 (0, 0) hrow).trans rfl
  have hnb : v.ownBlock ≠ some p := fun q => by have := (hown.lt p q).1; omega
  obtain ⟨i0, hi, hz0, hz1, hz2⟩ := info_parts info_u8
  have hnews : ∀ (j : Nat) (u : Value), (bytesV ys)[j]? = some u → w.cell? ((⟨g, o, none⟩ : Addr).add j) = some u := fun j u hu => range_add hy j u hu
  have hl : (bytesV ys).length = m * 1 := by rw [bytesV_length, hm, Nat.mul_one]
  obtain ⟨n, hn⟩ : ∃ n, xs.length = n := ⟨_, rfl⟩
  rw [hn] at hown hx9
  have HR := Lib.hid hrow
  have HN := Lib.hid (And.intro hn hm)
  clear hy hrow
  go_enter Tryd.func49, Tryd.ntmps49
  go_wp2_with (at_builtin; refine wpList_append_lies _ rfl _ _ 77 rfl (p + 1) 5 i0 (.int .u8 0) 1 1 Tryd.underlying77 hi hz0 hz1 hz2 rfl (by decide) v n (bytesV xs) rfl hown ⟨g, o, none⟩ m cap (bytesV ys) rfl hl hnews (bytesV_one ys) h0 (by unfold maxLen; omega) (by omega) (by omega) w.heap.size rfl ?_; intro g3 cap3 w3 hown3 hgrow3 hat3 hlt3; have hr3 : w3.heap[p]? = some (.cells #[v, .bool true] 94 (0, 0)) := (hgrow3.block p hp (fun e => hnb e.symm)).trans HR.out; have d0 : w3.cell? ⟨p, 0, none⟩ = some v := (cell_of_row w3 p 0 _ 94 (0, 0) hr3).trans rfl; have f0 := frozen_of_row w3 p 0 _ 94 hr3; have HX := Lib.hid (And.intro hown3 (And.intro hgrow3 (And.intro hat3 hr3))); clear hown3 hgrow3 hat3 hr3)
  refine bodyPost_end (results_none rfl _ _ _) rfl ⟨rfl, ⟨.slice (some ⟨g3, 0, none⟩) (n + m) cap3, ?_, ?_⟩, ?_⟩
  · exact heap_setCell_same _ _ _ _ _ _ HX.out.2.2.2
  · refine own_congr (own_setCell HX.out.1 ?_ _) (by rw [List.length_append, HN.out.1, HN.out.2]) (by simp [bytesV])
    intro e
    have e2 : p = g3 := Option.some.inj e
    rcases HX.out.2.2.1 with q | q
    · exact hnb (by rw [q, e2])
    · omega
  · have hb : Below p w w3 := ⟨HX.out.2.1.os, HX.out.2.1.tape, HX.out.2.1.output, HX.out.2.1.size, fun k hk => HX.out.2.1.block k (by omega) (fun e => by have := (hown.lt k e.symm).1; omega)⟩
    exact hb.setCell (by exact Nat.le_refl p) _
set_option maxRecDepth 100000 in
set_option maxHeartbeats 8000000 in
theorem var_any (p x : Nat) (xs : List UInt8) (w : World) (h : WAt p w xs) (hx : x ≤ 127) (hx9 : xs.length ≤ 1000000) :
    Calls Tryd.prog 31 #[.pointer (some ⟨p, 0, none⟩), .int .u64 x] w fun ev w' => ev = .returned (.tuple #[]) ∧ WAt p w' (xs ++ [UInt8.ofNat x]) ∧ Below p w w' := by
  obtain ⟨wx, hwx⟩ : ∃ y9 : World, w.alloc (.cells #[.int .u8 x] 5) = y9 := ⟨_, rfl⟩
  have HX : Hid (Below w.heap.size w wx) := Lib.hid (by rw [← hwx]; exact (Below.refl _ _).alloc (Nat.le_refl _) _)
  have RX : Hid (wx.heap[w.heap.size]? = some (.cells #[.int .u8 x] 5 (0, 0))) := Lib.hid (by rw [← hwx]; exact heap_at _ _ _ rfl)
  have hbx : (bytesV [UInt8.ofNat x]).toArray = #[.int .u8 x] := by
    have : (UInt8.ofNat x).toNat = x := by simp; omega
    simp [bytesV, byteV, this]
  have HPUT := Lib.hid (put_any p w.heap.size 0 1 1 xs [UInt8.ofNat x] wx (h.below HX.out) (range_row _ RX.out hbx) rfl (by omega) hx9 (by omega))
  have hpl := h.lt
  have e1 : decide ((127 : Int) < x) = false := by simp; omega
  have e2 : IntKind.u8.wrap (x : Int) = x := IntWalk.u8_in _ (by omega)
  have HWX := Lib.hid hwx
  clear h hwx hbx
  go_enter Tryd.func31, Tryd.ntmps31
  go_wp2
  go_loopw [1] (fun c wr => c = .int .u64 x ∧ wr = w) (fun _ _ => 0)
  case atStart => exact ⟨rfl, rfl⟩
  case round =>
    obtain ⟨rfl, rfl⟩ := hrel
    go_wp2_with fail
    rw [HWX.out]
    refine HPUT.out.mono ?_
    rintro ev w2 ⟨rfl, h2, b2⟩
    have H2 := Lib.hid (And.intro h2 b2)
    clear h2 b2
    go_wp2_with fail
    refine bodyPost_end (results_none rfl _ _ _) rfl ?_
    exact ⟨rfl, H2.out.1, (HX.out.mono (by omega)).trans H2.out.2⟩
set_option maxRecDepth 100000 in
set_option maxHeartbeats 8000000 in
theorem whash_any (p : Nat) (q : List UInt8) (xs : List UInt8) (w : World) (h : WAt p w xs) (hq : q.length = 32) (hx9 : xs.length ≤ 1000000) :
    Calls Tryd.prog 32 #[.pointer (some ⟨p, 0, none⟩), hv q] w fun ev w' => ev = .returned (.tuple #[]) ∧ WAt p w' (xs ++ q) ∧ Below p w w' := by
  obtain ⟨v0, ev0, Hv0, Zv0, Iv0, Ov0⟩ := row_of q hq
  obtain ⟨wv, hwv⟩ : ∃ y9 : World, (w.alloc (.cells v0 23)) = y9 := ⟨_, rfl⟩
  have HBv : Hid (Below w.heap.size w wv) := Lib.hid (by rw [← hwv]; exact ((Below.refl _ _).alloc (by simp <;> omega) _))
  have HSV : Hid (wv.heap.size = w.heap.size + 1) := Lib.hid (by rw [← hwv]; simp)
  have RA : Hid (wv.heap[w.heap.size]? = some (.cells v0 23 (0, 0))) := Lib.hid (by rw [← hwv]; exact heap_at _ _ _ (by simp <;> omega))
  have HWV := Lib.hid hwv
  have HPUT := Lib.hid (put_any p w.heap.size 0 32 32 xs q wv (h.below HBv.out) (range_row _ RA.out Hv0.out) hq (by omega) hx9 (by omega))
  have hpl := h.lt
  rw [ev0]
  clear h hwv ev0
  go_enter Tryd.func32, Tryd.ntmps32
  go_upto_region 1 with fail
  rw [HWV.out]
  go_wp2_with fail
  refine HPUT.out.mono ?_
  rintro ev w2 ⟨rfl, h2, b2⟩
  have H2 := Lib.hid (And.intro h2 b2)
  clear h2 b2
  go_wp2_with fail
  refine bodyPost_end (results_none rfl _ _ _) rfl ?_
  exact ⟨rfl, H2.out.1, (HBv.out.mono (by omega)).trans H2.out.2⟩
set_option maxRecDepth 100000 in
set_option maxHeartbeats 8000000 in
theorem done_any (p : Nat) (xs : List UInt8) (w : World) (h : WAt p w xs) (hne : xs ≠ []) :
    Calls Tryd.prog 33 #[.pointer (some ⟨p, 0, none⟩)] w fun ev w' => ev = .returned (.string ⟨xs.toArray⟩) ∧ w = w' := by
  obtain ⟨v, hrow, hown⟩ := h
  have hcs := hown
  rcases hown.2 with ⟨-, q⟩ | ⟨g, cap, cur, rfl, -⟩
  · exact absurd (List.eq_nil_of_length_eq_zero q) hne
  have c0 : w.cell? ⟨p, 0, none⟩ = some (.slice (some ⟨g, 0, none⟩) xs.length cap) := (cell_of_row w p 0 _ 94 (0, 0) hrow).trans rfl
  have kb := run_convert_bytes_back w 77 9 5 ⟨g, 0, none⟩ cap xs Tryd.underlying77 Tryd.underlying5 Tryd.underlying9 (fun j hj => hcs.cells (g := g) rfl j _ (bytesV_get (List.getElem?_eq_getElem hj)))
  obtain ⟨s, hs⟩ : ∃ s : ByteArray, ⟨xs.toArray⟩ = s := ⟨_, rfl⟩
  obtain ⟨n, hn⟩ : ∃ n, xs.length = n := ⟨_, rfl⟩
  rw [hn] at c0 kb
  rw [hs] at kb ⊢
  clear hcs hown hrow hs hn hne
  go_enter Tryd.func33, Tryd.ntmps33
  go_wp2
  go_ret
  exact ⟨rfl, rfl⟩
end Go.Proofs.YtnpblpbcchminaaDoor
