import Derived.Test.YtnpblpbcchminaaGreatDoorKbKrefR
/- cartularyref02.Reader: Hash. Condition: the table reads as listed. -/
namespace Go.Proofs.YtnpblpbcchminaaGreatDoor
open Go.ChangeShapes Go.WideShapes Go.ChangeAt Go.RowKit
set_option linter.unusedVariables false

def fillR (q : List UInt8) (j : Nat) : List Value := bytesV (q.take j) ++ List.replicate (32 - j) (.int .u8 0)
theorem fillR_zero (q : List UInt8) : (fillR q 0).toArray = #[.int .u8 0, .int .u8 0, .int .u8 0, .int .u8 0, .int .u8 0, .int .u8 0, .int .u8 0, .int .u8 0, .int .u8 0, .int .u8 0, .int .u8 0, .int .u8 0, .int .u8 0, .int .u8 0, .int .u8 0, .int .u8 0, .int .u8 0, .int .u8 0, .int .u8 0, .int .u8 0, .int .u8 0, .int .u8 0, .int .u8 0, .int .u8 0, .int .u8 0, .int .u8 0, .int .u8 0, .int .u8 0, .int .u8 0, .int .u8 0, .int .u8 0, .int .u8 0] := by simp [fillR, bytesV, List.replicate]
theorem fillR_full {q : List UInt8} (h : q.length = 32) : fillR q 32 = bytesV q := by simp [fillR, List.take_of_length_le (Nat.le_of_eq h)]
theorem fillR_set {q : List UInt8} {j : Nat} {b : UInt8} (h : q.length = 32) (hj : j < 32) (hb : q[j]? = some b) : (fillR q j).toArray.setIfInBounds j (byteV b) = (fillR q (j + 1)).toArray := by
  have hl : (bytesV (q.take j)).length = j := by rw [bytesV_length, List.length_take]; omega
  unfold fillR
  rw [List.setIfInBounds_toArray, List.set_append_right _ _ (by rw [hl]; exact Nat.le_refl _), hl, Nat.sub_self, show 32 - j = (32 - (j + 1)) + 1 by omega, List.replicate_succ, List.set_cons_zero, List.take_add_one, hb]
  simp [bytesV]
theorem fillR_at {q : List UInt8} {j : Nat} (h : q.length = 32) (hj : j < 32) : (fillR q j)[j]? = some (.int .u8 0) := by
  have hl : (bytesV (q.take j)).length = j := by rw [bytesV_length, List.length_take]; omega
  unfold fillR
  rw [List.getElem?_append_right (by rw [hl]; exact Nat.le_refl _), hl, Nat.sub_self, List.getElem?_replicate, if_pos (by omega)]

theorem But.mono_pred {P Q : Nat → Prop} {w w' : World} (h : But P w w') (hp : ∀ k, P k → Q k) : But Q w w' := ⟨h.os, h.tape, h.output, h.size, fun k hk q => h.same k hk (fun z => q (hp k z))⟩

set_option maxRecDepth 100000 in
set_option maxHeartbeats 8000000 in
theorem qhash_yes (p : Nat) (i : Nat) (S : ByteArray) (w : World) (h : QOk p w S i) (hk : i + 32 ≤ S.size) :
    Calls Tryz.prog 115 #[.pointer (some ⟨p, 0, none⟩)] w fun ev w' => ev = .returned (hv (((bOf S).drop i).take 32)) ∧ QOk p w' S (i + 32) ∧ But (· = p) w w' := by
  obtain ⟨wv, hwv⟩ : ∃ y9 : World, ((w.alloc (.cells #[.int .u8 0, .int .u8 0, .int .u8 0, .int .u8 0, .int .u8 0, .int .u8 0, .int .u8 0, .int .u8 0, .int .u8 0, .int .u8 0, .int .u8 0, .int .u8 0, .int .u8 0, .int .u8 0, .int .u8 0, .int .u8 0, .int .u8 0, .int .u8 0, .int .u8 0, .int .u8 0, .int .u8 0, .int .u8 0, .int .u8 0, .int .u8 0, .int .u8 0, .int .u8 0, .int .u8 0, .int .u8 0, .int .u8 0, .int .u8 0, .int .u8 0, .int .u8 0] 23)).alloc (.cells #[.int .u8 0, .int .u8 0, .int .u8 0, .int .u8 0, .int .u8 0, .int .u8 0, .int .u8 0, .int .u8 0, .int .u8 0, .int .u8 0, .int .u8 0, .int .u8 0, .int .u8 0, .int .u8 0, .int .u8 0, .int .u8 0, .int .u8 0, .int .u8 0, .int .u8 0, .int .u8 0, .int .u8 0, .int .u8 0, .int .u8 0, .int .u8 0, .int .u8 0, .int .u8 0, .int .u8 0, .int .u8 0, .int .u8 0, .int .u8 0, .int .u8 0, .int .u8 0] 23)) = y9 := ⟨_, rfl⟩
  have HBv : Hid (Below w.heap.size w wv) := Lib.hid (by rw [← hwv]; exact (((Below.refl _ _).alloc (by simp <;> omega) _).alloc (by simp <;> omega) _))
  have HSV : Hid (wv.heap.size = w.heap.size + 2) := Lib.hid (by rw [← hwv]; simp)
  have RA : Hid (wv.heap[w.heap.size]? = some (.cells #[.int .u8 0, .int .u8 0, .int .u8 0, .int .u8 0, .int .u8 0, .int .u8 0, .int .u8 0, .int .u8 0, .int .u8 0, .int .u8 0, .int .u8 0, .int .u8 0, .int .u8 0, .int .u8 0, .int .u8 0, .int .u8 0, .int .u8 0, .int .u8 0, .int .u8 0, .int .u8 0, .int .u8 0, .int .u8 0, .int .u8 0, .int .u8 0, .int .u8 0, .int .u8 0, .int .u8 0, .int .u8 0, .int .u8 0, .int .u8 0, .int .u8 0, .int .u8 0] 23 (0, 0))) := Lib.hid (by rw [← hwv]; exact (((Below.refl (w.alloc (.cells #[.int .u8 0, .int .u8 0, .int .u8 0, .int .u8 0, .int .u8 0, .int .u8 0, .int .u8 0, .int .u8 0, .int .u8 0, .int .u8 0, .int .u8 0, .int .u8 0, .int .u8 0, .int .u8 0, .int .u8 0, .int .u8 0, .int .u8 0, .int .u8 0, .int .u8 0, .int .u8 0, .int .u8 0, .int .u8 0, .int .u8 0, .int .u8 0, .int .u8 0, .int .u8 0, .int .u8 0, .int .u8 0, .int .u8 0, .int .u8 0, .int .u8 0, .int .u8 0] 23)).heap.size (w.alloc (.cells #[.int .u8 0, .int .u8 0, .int .u8 0, .int .u8 0, .int .u8 0, .int .u8 0, .int .u8 0, .int .u8 0, .int .u8 0, .int .u8 0, .int .u8 0, .int .u8 0, .int .u8 0, .int .u8 0, .int .u8 0, .int .u8 0, .int .u8 0, .int .u8 0, .int .u8 0, .int .u8 0, .int .u8 0, .int .u8 0, .int .u8 0, .int .u8 0, .int .u8 0, .int .u8 0, .int .u8 0, .int .u8 0, .int .u8 0, .int .u8 0, .int .u8 0, .int .u8 0] 23))).alloc (Nat.le_refl _) _).block w.heap.size (by simp <;> omega)).trans (heap_at _ _ _ (by simp <;> omega)))
  have RB : Hid (wv.heap[(w.heap.size + 1)]? = some (.cells #[.int .u8 0, .int .u8 0, .int .u8 0, .int .u8 0, .int .u8 0, .int .u8 0, .int .u8 0, .int .u8 0, .int .u8 0, .int .u8 0, .int .u8 0, .int .u8 0, .int .u8 0, .int .u8 0, .int .u8 0, .int .u8 0, .int .u8 0, .int .u8 0, .int .u8 0, .int .u8 0, .int .u8 0, .int .u8 0, .int .u8 0, .int .u8 0, .int .u8 0, .int .u8 0, .int .u8 0, .int .u8 0, .int .u8 0, .int .u8 0, .int .u8 0, .int .u8 0] 23 (0, 0))) := Lib.hid (by rw [← hwv]; exact heap_at _ _ _ (by simp <;> omega))
  have HWV := Lib.hid hwv
  have hsv := HSV.out
  have hpl := h.lt
  have HH := Lib.hid (h.below HBv.out)
  have hrow := HH.out.1
  have c0 : wv.cell? ⟨p, 0, none⟩ = some (.string S) := (cell_of_row wv p 0 _ 126 (0, 0) hrow).trans rfl
  have c1 : wv.cell? ⟨p, 1, none⟩ = some (.int .i64 (i : Nat)) := (cell_of_row wv p 1 _ 126 (0, 0) hrow).trans rfl
  have c2 : wv.cell? ⟨p, 2, none⟩ = some (.int .i64 0) := (cell_of_row wv p 2 _ 126 (0, 0) hrow).trans rfl
  have c3 : wv.cell? ⟨p, 3, none⟩ = some (.int .i64 0) := (cell_of_row wv p 3 _ 126 (0, 0) hrow).trans rfl
  obtain ⟨s, hs⟩ : ∃ s, S.extract i (i + 32) = s := ⟨_, rfl⟩
  have hq32 : (((bOf S).drop i).take 32).length = 32 := by rw [List.length_take, List.length_drop, bOf_length]; have := h.2; omega
  have hbs : bOf s = (((bOf S).drop i).take 32) := by rw [← hs]; exact extract_bOf S i 32
  obtain ⟨q, hq⟩ : ∃ q, (((bOf S).drop i).take 32) = q := ⟨_, rfl⟩
  rw [hq] at hq32 hbs ⊢
  have HS32 : Hid (s.size = 32) := Lib.hid (by rw [← bOf_length, hbs]; exact hq32)
  have HTA : Hid (Calls Tryz.prog 181 #[.pointer (some ⟨p, 0, none⟩), .int .i64 32, .int .i64 (i : Nat)] wv fun ev w' => ev = .returned (.tuple #[.string s, .bool true]) ∧ QOk p w' S (i + 32) ∧ But (· = p) wv w') := Lib.hid (by
    have := qtake_yes p i i S wv HH.out hk
    rw [hs] at this; exact this)
  obtain ⟨vq, evq, Hvq, Zvq, Ivq, Ovq⟩ := row_of q hq32
  have HQ := Lib.hid (And.intro hq32 hbs)
  rw [evq]
  clear h hwv evq hrow hs hq hq32 hbs
  go_enter Tryz.func115, Tryz.ntmps115
  go_upto_region 2 with fail
  rw [HWV.out]
  go_wp2_with fail
  refine HTA.out.mono ?_
  rintro ev w1 ⟨rfl, q1, b1⟩
  have Q1 := Lib.hid q1
  have B1 := Lib.hid b1
  have RA1 := Lib.hid ((b1.same _ (by omega) (by omega)).trans RA.out)
  have RB1 : Hid (w1.heap[w.heap.size + 1]? = some (.cells (fillR q 0).toArray 23 (0, 0))) := Lib.hid (by rw [fillR_zero]; exact (b1.same _ (by omega) (by omega)).trans RB.out)
  have hs1 := b1.size
  have z32 := HS32.out
  clear q1 b1 c0 c1 c2 c3
  go_wp2_with fail
  go_loopw [6] (fun k wr => ∃ (j : Nat), j ≤ 32 ∧ k = .int .i64 j ∧ Hid (wr.heap[w.heap.size + 1]? = some (.cells (fillR q j).toArray 23 (0, 0))) ∧ Hid (But (· = w.heap.size + 1) w1 wr)) (fun k _ => 32 - (intOf k).toNat)
  case atStart => exact ⟨0, Nat.zero_le _, rfl, RB1, Lib.hid (But.refl _ _)⟩
  case round =>
    obtain ⟨j, hj, rfl, HR, HB⟩ := hrel
    by_cases hlt : j < 32
    · obtain ⟨b, hb⟩ : ∃ b, q[j]? = some b := ⟨_, List.getElem?_eq_getElem (by have := HQ.out.1; omega)⟩
      have hbi : ∀ (h : j < s.size), s[j]'h = b := fun h => by
        have h2 : (bOf s)[j]? = some b := by rw [HQ.out.2]; exact hb
        rw [List.getElem?_eq_getElem (by rw [bOf_length]; exact h)] at h2
        injection h2
      have zc : wr.cell? ⟨w.heap.size + 1, j, none⟩ = some (.int .u8 0) := by
        rw [cell_of_row wr _ j _ 23 (0, 0) HR.out, List.getElem?_toArray]; exact fillR_at HQ.out.1 hlt
      have zf := frozen_of_row wr (w.heap.size + 1) j _ 23 HR.out
      obtain ⟨w9, hw9⟩ : ∃ y, wr.setCell ⟨w.heap.size + 1, j, none⟩ (.int .u8 (b.toNat : Int)) = y := ⟨_, rfl⟩
      have R9 : Hid (w9.heap[w.heap.size + 1]? = some (.cells (fillR q (j + 1)).toArray 23 (0, 0))) := Lib.hid (by
        rw [← hw9, ← fillR_set HQ.out.1 hlt hb]; exact heap_setCell_same wr _ j _ 23 _ HR.out)
      have B9 : Hid (But (· = w.heap.size + 1) w1 w9) := Lib.hid (by rw [← hw9]; exact HB.out.setCell _ _ _ (fun _ => rfl))
      have i0 : (0 : Int) ≤ j := by omega
      have i1 : (j : Int) < 32 := by omega
      clear hb
      go_wp2
      go_roundw
      case rel => exact ⟨j + 1, by omega, by go_num, R9, B9⟩
      case measure => simp [intOf]; omega
    · obtain rfl : j = 32 := by omega
      have TA : Hid (wr.heap[w.heap.size]? = some (.cells #[.int .u8 0, .int .u8 0, .int .u8 0, .int .u8 0, .int .u8 0, .int .u8 0, .int .u8 0, .int .u8 0, .int .u8 0, .int .u8 0, .int .u8 0, .int .u8 0, .int .u8 0, .int .u8 0, .int .u8 0, .int .u8 0, .int .u8 0, .int .u8 0, .int .u8 0, .int .u8 0, .int .u8 0, .int .u8 0, .int .u8 0, .int .u8 0, .int .u8 0, .int .u8 0, .int .u8 0, .int .u8 0, .int .u8 0, .int .u8 0, .int .u8 0, .int .u8 0] 23 (0, 0))) := Lib.hid ((HB.out.same _ (by omega) (by omega)).trans RA1.out)
      have TB : Hid (wr.heap[w.heap.size + 1]? = some (.cells vq 23 (0, 0))) := Lib.hid (by have := HR.out; rw [fillR_full HQ.out.1, Hvq.out] at this; exact this)
      have KE : Hid (But (fun k => k = p ∨ k = w.heap.size + 1) wv wr) := Lib.hid ((B1.out.step (T := (· = p)) (But.refl _ _) (fun _ _ q => q) |> fun z => But.step (But.mono_pred z (fun k q => .inl q)) HB.out (fun k _ q => .inr q)))
      have TQ : Hid (QSt p wr S (some (i + 32))) := Lib.hid (by
        obtain ⟨rv, hrv, hrc⟩ := QSt.row (o := some (i + 32)) Q1.out
        exact hrc _ ((HB.out.same p (Array.getElem?_eq_some_iff.1 hrv).1 (by omega)).trans hrv))
      go_wp2_with (first
        | (refine wpList_load_row rfl 23 _ rfl (w.heap.size + 1) rfl 23 vq (0, 0) _ TB.out Tryz.underlying23 rfl Ivq.out ?_)
        | (refine wpList_store_row_any rfl 23 _ _ rfl w.heap.size vq rfl rfl 23 _ TA.out Ivq.out (by rw [Zvq.out]; rfl) Ovq.out ?_; intro w6 hbN hgN hsN; have B6 := Lib.hid hbN; have R6 := Lib.hid hgN; clear hbN hgN hsN))
      refine bodyPost_ret (v := .agg vq) (results_cell_row rfl _ _ w.heap.size 23 vq (0, 0) _ rfl R6.out Tryz.underlying23 rfl Ivq.out) rfl ⟨rfl, ?_, ?_⟩
      · obtain ⟨rv, hrv, hrc⟩ := QSt.row (o := some (i + 32)) TQ.out
        exact hrc _ ((B6.out.same p (Array.getElem?_eq_some_iff.1 hrv).1 (by omega)).trans hrv)
      · exact ((but_of p HBv.out).step KE.out (fun k hk q => by rcases q with q | q <;> omega)).step B6.out (fun k hk q => by omega)

set_option maxRecDepth 100000 in
set_option maxHeartbeats 8000000 in
theorem qhash_no (p : Nat) (i : Nat) (S : ByteArray) (w : World) (h : QOk p w S i) (hk : S.size < i + 32) :
    Calls Tryz.prog 115 #[.pointer (some ⟨p, 0, none⟩)] w fun ev w' => ev = .returned (hv zeroH) ∧ QBad p w' S ∧ But (· = p) w w' := by
  obtain ⟨wv, hwv⟩ : ∃ y9 : World, ((w.alloc (.cells #[.int .u8 0, .int .u8 0, .int .u8 0, .int .u8 0, .int .u8 0, .int .u8 0, .int .u8 0, .int .u8 0, .int .u8 0, .int .u8 0, .int .u8 0, .int .u8 0, .int .u8 0, .int .u8 0, .int .u8 0, .int .u8 0, .int .u8 0, .int .u8 0, .int .u8 0, .int .u8 0, .int .u8 0, .int .u8 0, .int .u8 0, .int .u8 0, .int .u8 0, .int .u8 0, .int .u8 0, .int .u8 0, .int .u8 0, .int .u8 0, .int .u8 0, .int .u8 0] 23)).alloc (.cells #[.int .u8 0, .int .u8 0, .int .u8 0, .int .u8 0, .int .u8 0, .int .u8 0, .int .u8 0, .int .u8 0, .int .u8 0, .int .u8 0, .int .u8 0, .int .u8 0, .int .u8 0, .int .u8 0, .int .u8 0, .int .u8 0, .int .u8 0, .int .u8 0, .int .u8 0, .int .u8 0, .int .u8 0, .int .u8 0, .int .u8 0, .int .u8 0, .int .u8 0, .int .u8 0, .int .u8 0, .int .u8 0, .int .u8 0, .int .u8 0, .int .u8 0, .int .u8 0] 23)) = y9 := ⟨_, rfl⟩
  have HBv : Hid (Below w.heap.size w wv) := Lib.hid (by rw [← hwv]; exact (((Below.refl _ _).alloc (by simp <;> omega) _).alloc (by simp <;> omega) _))
  have HSV : Hid (wv.heap.size = w.heap.size + 2) := Lib.hid (by rw [← hwv]; simp)
  have RA : Hid (wv.heap[w.heap.size]? = some (.cells #[.int .u8 0, .int .u8 0, .int .u8 0, .int .u8 0, .int .u8 0, .int .u8 0, .int .u8 0, .int .u8 0, .int .u8 0, .int .u8 0, .int .u8 0, .int .u8 0, .int .u8 0, .int .u8 0, .int .u8 0, .int .u8 0, .int .u8 0, .int .u8 0, .int .u8 0, .int .u8 0, .int .u8 0, .int .u8 0, .int .u8 0, .int .u8 0, .int .u8 0, .int .u8 0, .int .u8 0, .int .u8 0, .int .u8 0, .int .u8 0, .int .u8 0, .int .u8 0] 23 (0, 0))) := Lib.hid (by rw [← hwv]; exact (((Below.refl (w.alloc (.cells #[.int .u8 0, .int .u8 0, .int .u8 0, .int .u8 0, .int .u8 0, .int .u8 0, .int .u8 0, .int .u8 0, .int .u8 0, .int .u8 0, .int .u8 0, .int .u8 0, .int .u8 0, .int .u8 0, .int .u8 0, .int .u8 0, .int .u8 0, .int .u8 0, .int .u8 0, .int .u8 0, .int .u8 0, .int .u8 0, .int .u8 0, .int .u8 0, .int .u8 0, .int .u8 0, .int .u8 0, .int .u8 0, .int .u8 0, .int .u8 0, .int .u8 0, .int .u8 0] 23)).heap.size (w.alloc (.cells #[.int .u8 0, .int .u8 0, .int .u8 0, .int .u8 0, .int .u8 0, .int .u8 0, .int .u8 0, .int .u8 0, .int .u8 0, .int .u8 0, .int .u8 0, .int .u8 0, .int .u8 0, .int .u8 0, .int .u8 0, .int .u8 0, .int .u8 0, .int .u8 0, .int .u8 0, .int .u8 0, .int .u8 0, .int .u8 0, .int .u8 0, .int .u8 0, .int .u8 0, .int .u8 0, .int .u8 0, .int .u8 0, .int .u8 0, .int .u8 0, .int .u8 0, .int .u8 0] 23))).alloc (Nat.le_refl _) _).block w.heap.size (by simp <;> omega)).trans (heap_at _ _ _ (by simp <;> omega)))
  have RB : Hid (wv.heap[(w.heap.size + 1)]? = some (.cells #[.int .u8 0, .int .u8 0, .int .u8 0, .int .u8 0, .int .u8 0, .int .u8 0, .int .u8 0, .int .u8 0, .int .u8 0, .int .u8 0, .int .u8 0, .int .u8 0, .int .u8 0, .int .u8 0, .int .u8 0, .int .u8 0, .int .u8 0, .int .u8 0, .int .u8 0, .int .u8 0, .int .u8 0, .int .u8 0, .int .u8 0, .int .u8 0, .int .u8 0, .int .u8 0, .int .u8 0, .int .u8 0, .int .u8 0, .int .u8 0, .int .u8 0, .int .u8 0] 23 (0, 0))) := Lib.hid (by rw [← hwv]; exact heap_at _ _ _ (by simp <;> omega))
  have HWV := Lib.hid hwv
  have hsv := HSV.out
  have hpl := h.lt
  have HH := Lib.hid (h.below HBv.out)
  have hrow := HH.out.1
  have c0 : wv.cell? ⟨p, 0, none⟩ = some (.string S) := (cell_of_row wv p 0 _ 126 (0, 0) hrow).trans rfl
  have c1 : wv.cell? ⟨p, 1, none⟩ = some (.int .i64 (i : Nat)) := (cell_of_row wv p 1 _ 126 (0, 0) hrow).trans rfl
  have c2 : wv.cell? ⟨p, 2, none⟩ = some (.int .i64 0) := (cell_of_row wv p 2 _ 126 (0, 0) hrow).trans rfl
  have c3 : wv.cell? ⟨p, 3, none⟩ = some (.int .i64 0) := (cell_of_row wv p 3 _ 126 (0, 0) hrow).trans rfl
  have HTA : Hid (Calls Tryz.prog 181 #[.pointer (some ⟨p, 0, none⟩), .int .i64 32, .int .i64 (i : Nat)] wv fun ev w' => ev = .returned (.tuple #[.string ⟨#[]⟩, .bool false]) ∧ QBad p w' S ∧ But (· = p) wv w') := Lib.hid (qtake_no p i i S wv HH.out hk)
  obtain ⟨vq, evq, Hvq, Zvq, Ivq, Ovq⟩ := row_of zeroH zeroH_length
  have HQ0 : Hid (vq = #[.int .u8 0, .int .u8 0, .int .u8 0, .int .u8 0, .int .u8 0, .int .u8 0, .int .u8 0, .int .u8 0, .int .u8 0, .int .u8 0, .int .u8 0, .int .u8 0, .int .u8 0, .int .u8 0, .int .u8 0, .int .u8 0, .int .u8 0, .int .u8 0, .int .u8 0, .int .u8 0, .int .u8 0, .int .u8 0, .int .u8 0, .int .u8 0, .int .u8 0, .int .u8 0, .int .u8 0, .int .u8 0, .int .u8 0, .int .u8 0, .int .u8 0, .int .u8 0]) := Lib.hid (by rw [zeroH_v] at evq; cases evq; rfl)
  rw [evq]
  clear h hwv evq hrow
  go_enter Tryz.func115, Tryz.ntmps115
  go_upto_region 2 with fail
  rw [HWV.out]
  go_wp2_with fail
  refine HTA.out.mono ?_
  rintro ev w1 ⟨rfl, q1, b1⟩
  have TQ : Hid (QSt p w1 S none) := Lib.hid q1
  have KE : Hid (But (fun k => k = p ∨ k = w.heap.size + 1) wv w1) := Lib.hid (But.mono_pred b1 (fun k q => .inl q))
  have TA := Lib.hid ((b1.same _ (by omega) (by omega)).trans RA.out)
  have TB : Hid (w1.heap[w.heap.size + 1]? = some (.cells vq 23 (0, 0))) := Lib.hid (by rw [HQ0.out]; exact (b1.same _ (by omega) (by omega)).trans RB.out)
  have hs1 := b1.size
  clear q1 b1 c0 c1 c2 c3
  go_wp2_with fail
  go_loopw [6] (fun k wr => k = .int .i64 0 ∧ wr = w1) (fun _ _ => 0)
  case atStart => exact ⟨rfl, rfl⟩
  case round =>
    obtain ⟨rfl, rfl⟩ := hrel
    go_wp2_with (first
      | (refine wpList_load_row rfl 23 _ rfl (w.heap.size + 1) rfl 23 vq (0, 0) _ TB.out Tryz.underlying23 rfl Ivq.out ?_)
      | (refine wpList_store_row_any rfl 23 _ _ rfl w.heap.size vq rfl rfl 23 _ TA.out Ivq.out (by rw [Zvq.out]; rfl) Ovq.out ?_; intro w6 hbN hgN hsN; have B6 := Lib.hid hbN; have R6 := Lib.hid hgN; clear hbN hgN hsN))
    refine bodyPost_ret (v := .agg vq) (results_cell_row rfl _ _ w.heap.size 23 vq (0, 0) _ rfl R6.out Tryz.underlying23 rfl Ivq.out) rfl ⟨rfl, ?_, ?_⟩
    · obtain ⟨rv, hrv, hrc⟩ := QSt.row (o := none) TQ.out
      exact hrc _ ((B6.out.same p (Array.getElem?_eq_some_iff.1 hrv).1 (by omega)).trans hrv)
    · exact ((but_of p HBv.out).step KE.out (fun k hk q => by rcases q with q | q <;> omega)).step B6.out (fun k hk q => by omega)

set_option maxRecDepth 100000 in
set_option maxHeartbeats 8000000 in
theorem qhash_bad (p : Nat) (S : ByteArray) (w : World) (h : QBad p w S) :
    Calls Tryz.prog 115 #[.pointer (some ⟨p, 0, none⟩)] w fun ev w' => ev = .returned (hv zeroH) ∧ QBad p w' S ∧ But (· = p) w w' := by
  obtain ⟨wv, hwv⟩ : ∃ y9 : World, ((w.alloc (.cells #[.int .u8 0, .int .u8 0, .int .u8 0, .int .u8 0, .int .u8 0, .int .u8 0, .int .u8 0, .int .u8 0, .int .u8 0, .int .u8 0, .int .u8 0, .int .u8 0, .int .u8 0, .int .u8 0, .int .u8 0, .int .u8 0, .int .u8 0, .int .u8 0, .int .u8 0, .int .u8 0, .int .u8 0, .int .u8 0, .int .u8 0, .int .u8 0, .int .u8 0, .int .u8 0, .int .u8 0, .int .u8 0, .int .u8 0, .int .u8 0, .int .u8 0, .int .u8 0] 23)).alloc (.cells #[.int .u8 0, .int .u8 0, .int .u8 0, .int .u8 0, .int .u8 0, .int .u8 0, .int .u8 0, .int .u8 0, .int .u8 0, .int .u8 0, .int .u8 0, .int .u8 0, .int .u8 0, .int .u8 0, .int .u8 0, .int .u8 0, .int .u8 0, .int .u8 0, .int .u8 0, .int .u8 0, .int .u8 0, .int .u8 0, .int .u8 0, .int .u8 0, .int .u8 0, .int .u8 0, .int .u8 0, .int .u8 0, .int .u8 0, .int .u8 0, .int .u8 0, .int .u8 0] 23)) = y9 := ⟨_, rfl⟩
  have HBv : Hid (Below w.heap.size w wv) := Lib.hid (by rw [← hwv]; exact (((Below.refl _ _).alloc (by simp <;> omega) _).alloc (by simp <;> omega) _))
  have HSV : Hid (wv.heap.size = w.heap.size + 2) := Lib.hid (by rw [← hwv]; simp)
  have RA : Hid (wv.heap[w.heap.size]? = some (.cells #[.int .u8 0, .int .u8 0, .int .u8 0, .int .u8 0, .int .u8 0, .int .u8 0, .int .u8 0, .int .u8 0, .int .u8 0, .int .u8 0, .int .u8 0, .int .u8 0, .int .u8 0, .int .u8 0, .int .u8 0, .int .u8 0, .int .u8 0, .int .u8 0, .int .u8 0, .int .u8 0, .int .u8 0, .int .u8 0, .int .u8 0, .int .u8 0, .int .u8 0, .int .u8 0, .int .u8 0, .int .u8 0, .int .u8 0, .int .u8 0, .int .u8 0, .int .u8 0] 23 (0, 0))) := Lib.hid (by rw [← hwv]; exact (((Below.refl (w.alloc (.cells #[.int .u8 0, .int .u8 0, .int .u8 0, .int .u8 0, .int .u8 0, .int .u8 0, .int .u8 0, .int .u8 0, .int .u8 0, .int .u8 0, .int .u8 0, .int .u8 0, .int .u8 0, .int .u8 0, .int .u8 0, .int .u8 0, .int .u8 0, .int .u8 0, .int .u8 0, .int .u8 0, .int .u8 0, .int .u8 0, .int .u8 0, .int .u8 0, .int .u8 0, .int .u8 0, .int .u8 0, .int .u8 0, .int .u8 0, .int .u8 0, .int .u8 0, .int .u8 0] 23)).heap.size (w.alloc (.cells #[.int .u8 0, .int .u8 0, .int .u8 0, .int .u8 0, .int .u8 0, .int .u8 0, .int .u8 0, .int .u8 0, .int .u8 0, .int .u8 0, .int .u8 0, .int .u8 0, .int .u8 0, .int .u8 0, .int .u8 0, .int .u8 0, .int .u8 0, .int .u8 0, .int .u8 0, .int .u8 0, .int .u8 0, .int .u8 0, .int .u8 0, .int .u8 0, .int .u8 0, .int .u8 0, .int .u8 0, .int .u8 0, .int .u8 0, .int .u8 0, .int .u8 0, .int .u8 0] 23))).alloc (Nat.le_refl _) _).block w.heap.size (by simp <;> omega)).trans (heap_at _ _ _ (by simp <;> omega)))
  have RB : Hid (wv.heap[(w.heap.size + 1)]? = some (.cells #[.int .u8 0, .int .u8 0, .int .u8 0, .int .u8 0, .int .u8 0, .int .u8 0, .int .u8 0, .int .u8 0, .int .u8 0, .int .u8 0, .int .u8 0, .int .u8 0, .int .u8 0, .int .u8 0, .int .u8 0, .int .u8 0, .int .u8 0, .int .u8 0, .int .u8 0, .int .u8 0, .int .u8 0, .int .u8 0, .int .u8 0, .int .u8 0, .int .u8 0, .int .u8 0, .int .u8 0, .int .u8 0, .int .u8 0, .int .u8 0, .int .u8 0, .int .u8 0] 23 (0, 0))) := Lib.hid (by rw [← hwv]; exact heap_at _ _ _ (by simp <;> omega))
  have HWV := Lib.hid hwv
  have hsv := HSV.out
  have hpl := h.lt
  have HH := Lib.hid (h.below HBv.out)
  obtain ⟨i, k9, hrow, -⟩ := HH.out
  have c0 : wv.cell? ⟨p, 0, none⟩ = some (.string S) := (cell_of_row wv p 0 _ 126 (0, 0) hrow).trans rfl
  have c1 : wv.cell? ⟨p, 1, none⟩ = some (.int .i64 (i : Nat)) := (cell_of_row wv p 1 _ 126 (0, 0) hrow).trans rfl
  have c2 : wv.cell? ⟨p, 2, none⟩ = some (.int .i64 3) := (cell_of_row wv p 2 _ 126 (0, 0) hrow).trans rfl
  have c3 : wv.cell? ⟨p, 3, none⟩ = some (.int .i64 (k9 : Nat)) := (cell_of_row wv p 3 _ 126 (0, 0) hrow).trans rfl
  have HTA : Hid (Calls Tryz.prog 181 #[.pointer (some ⟨p, 0, none⟩), .int .i64 32, .int .i64 (i : Nat)] wv fun ev w' => ev = .returned (.tuple #[.string ⟨#[]⟩, .bool false]) ∧ QBad p w' S ∧ But (· = p) wv w') := Lib.hid ((qtake_bad p i S wv HH.out).mono (fun _ _ z => ⟨z.1, by rw [← z.2]; exact HH.out, by rw [← z.2]; exact But.refl _ _⟩))
  obtain ⟨vq, evq, Hvq, Zvq, Ivq, Ovq⟩ := row_of zeroH zeroH_length
  have HQ0 : Hid (vq = #[.int .u8 0, .int .u8 0, .int .u8 0, .int .u8 0, .int .u8 0, .int .u8 0, .int .u8 0, .int .u8 0, .int .u8 0, .int .u8 0, .int .u8 0, .int .u8 0, .int .u8 0, .int .u8 0, .int .u8 0, .int .u8 0, .int .u8 0, .int .u8 0, .int .u8 0, .int .u8 0, .int .u8 0, .int .u8 0, .int .u8 0, .int .u8 0, .int .u8 0, .int .u8 0, .int .u8 0, .int .u8 0, .int .u8 0, .int .u8 0, .int .u8 0, .int .u8 0]) := Lib.hid (by rw [zeroH_v] at evq; cases evq; rfl)
  rw [evq]
  clear h hwv evq hrow
  go_enter Tryz.func115, Tryz.ntmps115
  go_upto_region 2 with fail
  rw [HWV.out]
  go_wp2_with fail
  refine HTA.out.mono ?_
  rintro ev w1 ⟨rfl, q1, b1⟩
  have TQ : Hid (QSt p w1 S none) := Lib.hid q1
  have KE : Hid (But (fun k => k = p ∨ k = w.heap.size + 1) wv w1) := Lib.hid (But.mono_pred b1 (fun k q => .inl q))
  have TA := Lib.hid ((b1.same _ (by omega) (by omega)).trans RA.out)
  have TB : Hid (w1.heap[w.heap.size + 1]? = some (.cells vq 23 (0, 0))) := Lib.hid (by rw [HQ0.out]; exact (b1.same _ (by omega) (by omega)).trans RB.out)
  have hs1 := b1.size
  clear q1 b1 c0 c1 c2 c3
  go_wp2_with fail
  go_loopw [6] (fun k wr => k = .int .i64 0 ∧ wr = w1) (fun _ _ => 0)
  case atStart => exact ⟨rfl, rfl⟩
  case round =>
    obtain ⟨rfl, rfl⟩ := hrel
    go_wp2_with (first
      | (refine wpList_load_row rfl 23 _ rfl (w.heap.size + 1) rfl 23 vq (0, 0) _ TB.out Tryz.underlying23 rfl Ivq.out ?_)
      | (refine wpList_store_row_any rfl 23 _ _ rfl w.heap.size vq rfl rfl 23 _ TA.out Ivq.out (by rw [Zvq.out]; rfl) Ovq.out ?_; intro w6 hbN hgN hsN; have B6 := Lib.hid hbN; have R6 := Lib.hid hgN; clear hbN hgN hsN))
    refine bodyPost_ret (v := .agg vq) (results_cell_row rfl _ _ w.heap.size 23 vq (0, 0) _ rfl R6.out Tryz.underlying23 rfl Ivq.out) rfl ⟨rfl, ?_, ?_⟩
    · obtain ⟨rv, hrv, hrc⟩ := QSt.row (o := none) TQ.out
      exact hrc _ ((B6.out.same p (Array.getElem?_eq_some_iff.1 hrv).1 (by omega)).trans hrv)
    · exact ((but_of p HBv.out).step KE.out (fun k hk q => by rcases q with q | q <;> omega)).step B6.out (fun k hk q => by omega)

theorem qhash_st (p : Nat) (S : ByteArray) (o : Option Nat) (w : World) (h : QSt p w S o) :
    Calls Tryz.prog 115 #[.pointer (some ⟨p, 0, none⟩)] w fun ev w' => ev = .returned (hv (hashS S o).1) ∧ QSt p w' S (hashS S o).2 ∧ But (· = p) w w' := by
  cases o with
  | none => exact qhash_bad p S w h
  | some i =>
    by_cases hk : i + 32 ≤ S.size
    · have e : hashS S (some i) = (((bOf S).drop i).take 32, some (i + 32)) := by show (if i + 32 ≤ S.size then _ else _) = _; rw [if_pos hk]
      rw [e]
      exact qhash_yes p i S w h hk
    · have e : hashS S (some i) = (zeroH, none) := by show (if i + 32 ≤ S.size then _ else _) = _; rw [if_neg hk]
      rw [e]
      exact qhash_no p i S w h (by omega)

end Go.Proofs.YtnpblpbcchminaaGreatDoor
