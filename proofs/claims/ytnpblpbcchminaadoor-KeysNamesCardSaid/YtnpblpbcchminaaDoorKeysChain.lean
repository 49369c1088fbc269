/- hash.Chain, onetime.on. Condition: the table reads as listed. -/
import Derived.Test.YtnpblpbcchminaaDoorKeysPlain
import Derived.Test.YtnpblpbcchminaaDoorHashAid
namespace Go.Proofs.YtnpblpbcchminaaDoor
open Go.ChangeShapes Go.WideShapes Go.ChangeAt Go.RowKit
set_option linter.unusedVariables false
/-- texts in a row are a list of texts -/
theorem trd_at {w : World} {g n : Nat} {c : Array Value} {fr : Nat × Nat} (l : List ByteArray) (h : w.heap[g]? = some (.cells c 9 fr)) (hn : l.length = n) (hc : c = (l.map Value.string).toArray) : TRd w (.slice (some ⟨g, 0, none⟩) n n) l := by
  subst hn
  refine ⟨_, _, rfl, Nat.le_refl _, .inr ⟨_, _, rfl, fun j v hj => ?_⟩⟩
  rw [Nat.zero_add, cell_of_row w g j c 9 fr h, hc]
  simpa using hj
/-- a row of bytes in a block -/
theorem range_row {w : World} {g t : Nat} {c : Array Value} {fr : Nat × Nat} (p : List UInt8) (h : w.heap[g]? = some (.cells c t fr)) (hc : (bytesV p).toArray = c) : w.rangeAt g 0 (bytesV p) := fun j v hj => by
  rw [Nat.zero_add, cell_of_row w g j c t fr h, ← hc]
  simpa using hj
set_option maxRecDepth 100000 in
set_option maxHeartbeats 8000000 in
theorem chain_any (h : List UInt8) (n : Nat) (w : World) (hh : h.length = 32) (hn : n ≤ 255) (hK : KTab 17 w) :
    Calls Tryd.prog 59 #[hv h, .int .i64 n] w fun ev w' => ev = .returned (.tuple #[hv (onH n h), .nilIface]) ∧ Below w.heap.size w w' := by
  have HK := Lib.hid hK
  have HKl := Lib.hid hK.lt
  have HH := Lib.hid hh
  obtain ⟨v0, ev0, Hv0, Zv0, Iv0, Ov0⟩ := row_of h hh
  obtain ⟨wv, hwv⟩ : ∃ y9 : World, ((w.alloc (.cells v0 23)).alloc (.cells #[.int .u8 0, .int .u8 0, .int .u8 0, .int .u8 0, .int .u8 0, .int .u8 0, .int .u8 0, .int .u8 0, .int .u8 0, .int .u8 0, .int .u8 0, .int .u8 0, .int .u8 0, .int .u8 0, .int .u8 0, .int .u8 0, .int .u8 0, .int .u8 0, .int .u8 0, .int .u8 0, .int .u8 0, .int .u8 0, .int .u8 0, .int .u8 0, .int .u8 0, .int .u8 0, .int .u8 0, .int .u8 0, .int .u8 0, .int .u8 0, .int .u8 0, .int .u8 0] 23)) = y9 := ⟨_, rfl⟩
  have HBv : Hid (Below w.heap.size w wv) := Lib.hid (by rw [← hwv]; exact (((Below.refl _ _).alloc (by simp <;> omega) _).alloc (by simp <;> omega) _))
  have HSV : Hid (wv.heap.size = w.heap.size + 2) := Lib.hid (by rw [← hwv]; simp)
  have R0 : Hid (wv.heap[w.heap.size]? = some (.cells v0 23 (0, 0))) := Lib.hid (by rw [← hwv]; exact (((Below.refl (w.alloc (.cells v0 23)).heap.size (w.alloc (.cells v0 23))).alloc (Nat.le_refl _) _).block w.heap.size (by simp <;> omega)).trans (heap_at _ _ _ (by simp <;> omega)))
  have R1 : Hid (wv.heap[(w.heap.size + 1)]? = some (.cells #[.int .u8 0, .int .u8 0, .int .u8 0, .int .u8 0, .int .u8 0, .int .u8 0, .int .u8 0, .int .u8 0, .int .u8 0, .int .u8 0, .int .u8 0, .int .u8 0, .int .u8 0, .int .u8 0, .int .u8 0, .int .u8 0, .int .u8 0, .int .u8 0, .int .u8 0, .int .u8 0, .int .u8 0, .int .u8 0, .int .u8 0, .int .u8 0, .int .u8 0, .int .u8 0, .int .u8 0, .int .u8 0, .int .u8 0, .int .u8 0, .int .u8 0, .int .u8 0] 23 (0, 0))) := Lib.hid (by rw [← hwv]; exact heap_at _ _ _ (by simp <;> omega))
  have HWV := Lib.hid hwv
  have e1 : decide ((n : Int) < 0) = false := by simp
  have e2 : decide ((255 : Int) < n) = false := by simp; omega
  have e3 : ¬ ((255 : Int) < n) := by omega
  have EV0 := Lib.hid ev0
  rw [ev0]
  clear hK hh ev0 hwv
  go_enter Tryd.func59, Tryd.ntmps59
  go_upto_region 1 with fail
  rw [HWV.out]
  go_wp2_with fail
  go_loopw [15] (fun c wr => ∃ (i : Nat) (vi : Array Value), i ≤ n ∧ c = .int .i64 i ∧ Hid (hv (onH i h) = .agg vi) ∧ Hid ((bytesV (onH i h)).toArray = vi) ∧ Hid (wr.heap[w.heap.size]? = some (.cells vi 23 (0, 0))) ∧ Hid (wr.heap[w.heap.size + 1]? = some (.cells #[.int .u8 0, .int .u8 0, .int .u8 0, .int .u8 0, .int .u8 0, .int .u8 0, .int .u8 0, .int .u8 0, .int .u8 0, .int .u8 0, .int .u8 0, .int .u8 0, .int .u8 0, .int .u8 0, .int .u8 0, .int .u8 0, .int .u8 0, .int .u8 0, .int .u8 0, .int .u8 0, .int .u8 0, .int .u8 0, .int .u8 0, .int .u8 0, .int .u8 0, .int .u8 0, .int .u8 0, .int .u8 0, .int .u8 0, .int .u8 0, .int .u8 0, .int .u8 0] 23 (0, 0))) ∧ Hid (Below w.heap.size w wr)) (fun c _ => n - (intOf c).toNat)
  case atStart => exact ⟨0, v0, Nat.zero_le _, rfl, EV0, Hv0, R0, R1, HBv⟩
  case round =>
    obtain ⟨i, vi, hi, rfl, EVi, HVi, RI, RZ, HB⟩ := hrel
    have Zvi : Hid (vi.size = 32) := Lib.hid (by rw [← HVi.out]; simp [bytesV_length, onH_length HH.out])
    have Ivi : Hid ((Tryd.prog.info? 23).map (·.size) = some vi.size) := Lib.hid (by rw [Zvi.out]; kernel_rfl)
    have hl1 : w.heap.size + 1 < wr.heap.size := (Array.getElem?_eq_some_iff.1 RZ.out).1
    by_cases hlt : i < n
    · have hlt' : (i : Int) < n := by omega
      have kb := bytes_back wr w.heap.size 0 32 (onH i h) (onH_length HH.out i) (range_row _ RI.out HVi.out)
      obtain ⟨vn, evn, Hvn, Zvn, Ivn, Ovn⟩ := row_of (onH (i + 1) h) (onH_length HH.out _)
      have HC : Hid (shaB (catB [⟨#[2]⟩, ⟨(onH i h).toArray⟩]) = onH (i + 1) h) := Lib.hid (by rw [onH_snoc]; simp [catB, bOf])
      have HL : Hid ((catB [⟨#[2]⟩, ⟨(onH i h).toArray⟩]).length ≤ 140737488355328) := Lib.hid (by simp [catB, bOf, onH_length HH.out])
      obtain ⟨s, hs⟩ : ∃ s : ByteArray, ⟨(onH i h).toArray⟩ = s := ⟨_, rfl⟩
      rw [hs] at kb HC HL
      obtain ⟨wx, hwx⟩ : ∃ x, wr.alloc (.cells #[.string ⟨#[2]⟩, .string s] 9) = x := ⟨_, rfl⟩
      have HX : Hid (Below wr.heap.size wr wx) := Lib.hid (by rw [← hwx]; exact (Below.refl _ _).alloc (Nat.le_refl _) _)
      have HT1 : Hid (TRd wx (.slice (some ⟨wr.heap.size, 0, none⟩) 2 2) [⟨#[2]⟩, s]) := Lib.hid (by rw [← hwx]; exact trd_new wr _ 2 _ _ _ rfl rfl rfl)
      have HWX := Lib.hid hwx
      have EVN := Lib.hid evn
      clear hs hwx evn
      go_upto_region 5 with fail
      go_wp2_with fail
      rw [HWX.out]
      refine (sum_any (some ⟨wr.heap.size, 0, none⟩) 2 [⟨#[2]⟩, s] wx HT1.out HL.out (by simp) (ktab_below HK.out (HB.out.trans (HX.out.mono HB.out.size)) HKl.out)).mono ?_
      rw [HC.out, EVN.out]
      rintro ev w3 ⟨rfl, b3⟩
      have B3 : Hid (Below wr.heap.size wr w3) := Lib.hid (HX.out.trans (b3.mono HX.out.size))
      have RI3 := Lib.hid ((B3.out.block _ (by omega)).trans RI.out)
      have RZ3 := Lib.hid ((B3.out.block _ hl1).trans RZ.out)
      clear b3 kb
      go_upto_region 6 with (refine wpList_store_row_any rfl 23 _ _ rfl w.heap.size vn rfl rfl 23 _ RI3.out Ivn.out (by rw [Zvi.out, Zvn.out]) Ovn.out ?_; intro w4 hbN hgN hsN; have B4 := Lib.hid hbN; have R4 := Lib.hid hgN; clear hbN hgN hsN)
      go_wp2
      go_roundw
      case rel => exact ⟨i + 1, vn, by omega, by go_num, EVN, Hvn, R4, Lib.hid ((B4.out.same _ (by have := B3.out.size; omega) (by omega)).trans RZ3.out), Lib.hid ((HB.out.trans (B3.out.mono HB.out.size)).trans (B4.out.to_below (by have := HB.out.size; have := B3.out.size; omega) (fun k hk q => by omega)))⟩
      case measure => simp [intOf]; omega
    · obtain rfl : n = i := by omega
      have hlt' : ¬ ((n : Int) < n) := by omega
      go_wp2_with (first
        | (refine wpList_load_row rfl 23 _ rfl w.heap.size rfl 23 vi (0, 0) _ RI.out Tryd.underlying23 rfl Ivi.out ?_)
        | (refine wpList_store_row_any rfl 23 _ _ rfl (w.heap.size + 1) vi rfl rfl 23 _ RZ.out Ivi.out (by rw [Zvi.out]; rfl) (by rw [← HVi.out]; exact bytesV_all _) ?_; intro w4 hbN hgN hsN; have B4 := Lib.hid hbN; have R4 := Lib.hid hgN; clear hbN hgN hsN))
      refine bodyPost_ret (v := .tuple #[.agg vi, .nilIface]) (results_row_tmp rfl _ _ (w.heap.size + 1) 23 vi (0, 0) _ rfl R4.out Tryd.underlying23 rfl Ivi.out _ rfl) rfl ⟨by rw [EVi.out], HB.out.trans (B4.out.to_below (by have := HB.out.size; omega) (fun k hk q => by omega))⟩
set_option maxRecDepth 100000 in
set_option maxHeartbeats 8000000 in
theorem on_any (h : List UInt8) (n : Nat) (w : World) (hh : h.length = 32) (hn : n ≤ 255) (hK : KTab 17 w) :
    Calls Tryd.prog 42 #[hv h, .int .i64 n] w fun ev w' => ev = .returned (hv (onH n h)) ∧ Below w.heap.size w w' := by
  obtain ⟨v0, ev0, Hv0, Zv0, Iv0, Ov0⟩ := row_of h hh
  obtain ⟨vn, evn, Hvn, Zvn, Ivn, Ovn⟩ := row_of (onH n h) (onH_length hh n)
  obtain ⟨wv, hwv⟩ : ∃ y9 : World, ((w.alloc (.cells v0 23)).alloc (.cells #[.int .u8 0, .int .u8 0, .int .u8 0, .int .u8 0, .int .u8 0, .int .u8 0, .int .u8 0, .int .u8 0, .int .u8 0, .int .u8 0, .int .u8 0, .int .u8 0, .int .u8 0, .int .u8 0, .int .u8 0, .int .u8 0, .int .u8 0, .int .u8 0, .int .u8 0, .int .u8 0, .int .u8 0, .int .u8 0, .int .u8 0, .int .u8 0, .int .u8 0, .int .u8 0, .int .u8 0, .int .u8 0, .int .u8 0, .int .u8 0, .int .u8 0, .int .u8 0] 23)) = y9 := ⟨_, rfl⟩
  have HBv : Hid (Below w.heap.size w wv) := Lib.hid (by rw [← hwv]; exact (((Below.refl _ _).alloc (by simp <;> omega) _).alloc (by simp <;> omega) _))
  have HSV : Hid (wv.heap.size = w.heap.size + 2) := Lib.hid (by rw [← hwv]; simp)
  have R0 : Hid (wv.heap[w.heap.size]? = some (.cells v0 23 (0, 0))) := Lib.hid (by rw [← hwv]; exact (((Below.refl (w.alloc (.cells v0 23)).heap.size (w.alloc (.cells v0 23))).alloc (Nat.le_refl _) _).block w.heap.size (by simp <;> omega)).trans (heap_at _ _ _ (by simp <;> omega)))
  have R1 : Hid (wv.heap[(w.heap.size + 1)]? = some (.cells #[.int .u8 0, .int .u8 0, .int .u8 0, .int .u8 0, .int .u8 0, .int .u8 0, .int .u8 0, .int .u8 0, .int .u8 0, .int .u8 0, .int .u8 0, .int .u8 0, .int .u8 0, .int .u8 0, .int .u8 0, .int .u8 0, .int .u8 0, .int .u8 0, .int .u8 0, .int .u8 0, .int .u8 0, .int .u8 0, .int .u8 0, .int .u8 0, .int .u8 0, .int .u8 0, .int .u8 0, .int .u8 0, .int .u8 0, .int .u8 0, .int .u8 0, .int .u8 0] 23 (0, 0))) := Lib.hid (by rw [← hwv]; exact heap_at _ _ _ (by simp <;> omega))
  have HWV := Lib.hid hwv
  have HC : Hid (Calls Tryd.prog 59 #[.agg v0, .int .i64 n] wv fun ev w' => ev = .returned (.tuple #[.agg vn, .nilIface]) ∧ Below wv.heap.size wv w') := Lib.hid (by
    have := chain_any h n wv hh hn (ktab_below hK HBv.out hK.lt)
    rw [ev0, evn] at this; exact this)
  rw [ev0, evn]
  clear hK hh ev0 evn hwv
  go_enter Tryd.func42, Tryd.ntmps42
  go_upto_region 1 with fail
  rw [HWV.out]
  go_wp2_with (refine wpList_load_row rfl 23 _ rfl w.heap.size rfl 23 v0 (0, 0) _ R0.out Tryd.underlying23 rfl Iv0.out ?_)
  refine HC.out.mono ?_
  rintro ev w1 ⟨rfl, b1⟩
  have B1 := Lib.hid (HBv.out.trans (b1.mono HBv.out.size))
  have RA := Lib.hid ((b1.block _ (by have := HSV.out; omega)).trans R0.out)
  have RB := Lib.hid ((b1.block _ (by have := HSV.out; omega)).trans R1.out)
  have hs1 : w.heap.size + 1 < w1.heap.size := (Array.getElem?_eq_some_iff.1 RB.out).1
  clear b1
  go_upto_region 2 with (refine wpList_store_row_any rfl 23 _ _ rfl w.heap.size vn rfl rfl 23 _ RA.out Ivn.out (by rw [Zv0.out, Zvn.out]) Ovn.out ?_; intro w2 hbN hgN hsN; have B2 := Lib.hid hbN; have R2 := Lib.hid hgN; have S2 := Lib.hid hsN; clear hbN hgN hsN)
  have RC := Lib.hid ((B2.out.same _ hs1 (by omega)).trans RB.out)
  go_wp2_with (first
    | (refine wpList_load_row rfl 23 _ rfl w.heap.size rfl 23 vn (0, 0) _ R2.out Tryd.underlying23 rfl Ivn.out ?_)
    | (refine wpList_store_row_any rfl 23 _ _ rfl (w.heap.size + 1) vn rfl rfl 23 _ RC.out Ivn.out (by rw [Zvn.out]; rfl) Ovn.out ?_; intro w3 hbN hgN hsN; have B3 := Lib.hid hbN; have R3 := Lib.hid hgN; clear hbN hgN hsN))
  refine bodyPost_ret (v := .agg vn) (results_cell_row rfl _ _ (w.heap.size + 1) 23 vn (0, 0) _ rfl R3.out Tryd.underlying23 rfl Ivn.out) rfl ⟨rfl, ?_⟩
  exact (B1.out.trans (B2.out.to_below (by omega) (fun k hk q => by omega))).trans (B3.out.to_below (by have := S2.out; omega) (fun k hk q => by omega))
end Go.Proofs.YtnpblpbcchminaaDoor
