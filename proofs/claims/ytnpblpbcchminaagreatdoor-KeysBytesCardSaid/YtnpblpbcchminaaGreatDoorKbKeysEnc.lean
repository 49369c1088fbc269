import Derived.Deep.AppendLies
import Derived.Test.YtnpblpbcchminaaGreatDoorKbKeysVer
/- codec.Writer: NewWriter, put, Var of small numbers, Hash, Done. Condition: the table reads as listed. -/
namespace Go.Proofs.YtnpblpbcchminaaGreatDoor
open Go.ChangeShapes Go.WideShapes Go.ChangeAt Go.RowKit
set_option linter.unusedVariables false
/-- a writer in block p that holds the bytes xs -/
def WAt (p : Nat) (w : World) (xs : List UInt8) : Prop := ∃ v, w.heap[p]? = some (.cells #[v, .bool true] 240 (0, 0)) ∧ w.ownsRow (p + 1) 5 1 v xs.length (bytesV xs)
theorem WAt.lt {p : Nat} {w : World} {xs : List UInt8} (h : WAt p w xs) : p < w.heap.size := by
  obtain ⟨v, h1, -⟩ := h
  exact (Array.getElem?_eq_some_iff.1 h1).1
theorem WAt.below {p : Nat} {w w' : World} {xs : List UInt8} (h : WAt p w xs) (hb : Below w.heap.size w w') : WAt p w' xs := by
  obtain ⟨v, h1, h2⟩ := h
  exact ⟨v, (hb.block _ (Array.getElem?_eq_some_iff.1 h1).1).trans h1, own_below h2 hb (Nat.le_refl _)⟩
set_option maxRecDepth 100000 in
set_option maxHeartbeats 8000000 in
theorem wnew_any (w : World) : Calls Tryz.prog 103 #[] w fun ev w' => ev = .returned (.pointer (some ⟨w.heap.size, 0, none⟩)) ∧ WAt w.heap.size w' [] ∧ Below w.heap.size w w' := by
  go_enter Tryz.func103, Tryz.ntmps103
  go_wp2
  go_ret
  exact ⟨rfl, ⟨.slice none 0 0, heap_at _ _ _ rfl, World.ownsRow_nil _ _ _ _⟩, (Below.refl _ _).alloc (Nat.le_refl _) _⟩
set_option maxRecDepth 100000 in
set_option maxHeartbeats 8000000 in
theorem put_any (p g o m cap : Nat) (xs ys : List UInt8) (w : World) (h : WAt p w xs) (hy : w.rangeAt g o (bytesV ys)) (hm : ys.length = m) (h0 : 0 < m) (hx9 : xs.length ≤ 1000000) (hm9 : m ≤ 1000000) :
    Calls Tryz.prog 170 #[.pointer (some ⟨p, 0, none⟩), .slice (some ⟨g, o, none⟩) m cap] w fun ev w' => ev = .returned (.tuple #[]) ∧ WAt p w' (xs ++ ys) ∧ Below p w w' := by
  obtain ⟨v, hrow, hown⟩ := h
  have hp : p < w.heap.size := (Array.getElem?_eq_some_iff.1 hrow).1
  have c0 : w.cell? ⟨p, 0, none⟩ = some v := (cell_of_row w p 0 _ 240 (0, 0) hrow).trans rfl
  have c1 : w.cell? ⟨p, 1, none⟩ = some (.bool true) := (cell_of_row w p 1 _ 240 (0, 0) hrow).trans rfl
  have hnb : v.ownBlock ≠ some p := fun q => by have := (hown.lt p q).1; omega
  obtain ⟨i0, hi, hz0, hz1, hz2⟩ := info_parts info_u8
  have hnews : ∀ (j : Nat) (u : Value), (bytesV ys)[j]? = some u → w.cell? ((⟨g, o, none⟩ : Addr).add j) = some u := fun j u hu => range_add hy j u hu
  have hl : (bytesV ys).length = m * 1 := by rw [bytesV_length, hm, Nat.mul_one]
  obtain ⟨n, hn⟩ : ∃ n, xs.length = n := ⟨_, rfl⟩
  rw [hn] at hown hx9
  have HR := Lib.hid hrow
  have HN := Lib.hid (And.intro hn hm)
  clear hy hrow
  go_enter Tryz.func170, Tryz.ntmps170
  go_wp2_with (at_builtin; refine wpList_append_lies _ rfl _ _ 138 rfl (p + 1) 5 i0 (.int .u8 0) 1 1 Tryz.underlying138 hi hz0 hz1 hz2 rfl (by decide) v n (bytesV xs) rfl hown ⟨g, o, none⟩ m cap (bytesV ys) rfl hl hnews (bytesV_one ys) h0 (by unfold maxLen; omega) (by omega) (by omega) w.heap.size rfl ?_; intro g3 cap3 w3 hown3 hgrow3 hat3 hlt3; have hr3 : w3.heap[p]? = some (.cells #[v, .bool true] 240 (0, 0)) := (hgrow3.block p hp (fun e => hnb e.symm)).trans HR.out; have d0 : w3.cell? ⟨p, 0, none⟩ = some v := (cell_of_row w3 p 0 _ 240 (0, 0) hr3).trans rfl; have f0 := frozen_of_row w3 p 0 _ 240 hr3; have HX := Lib.hid (And.intro hown3 (And.intro hgrow3 (And.intro hat3 hr3))); clear hown3 hgrow3 hat3 hr3)
  refine bodyPost_end (results_none rfl _ _ _) rfl ⟨rfl, ⟨.slice (some ⟨g3, 0, none⟩) (n + m) cap3, ?_, ?_⟩, ?_⟩
  · exact heap_setCell_same _ _ _ _ _ _ HX.out.2.2.2
  · refine own_congr (own_setCell HX.out.1 ?_ _) (by rw [List.length_append, HN.out.1, HN.out.2]) (by simp [bytesV])
    intro e
    have e2 : p = g3 := Option.some.inj e
    rcases HX.out.2.2.1 with q | q
    · exact hnb (by rw [q, e2])
    · omega
  · have hb : Below p w w3 := ⟨HX.out.2.1.os, HX.out.2.1.tape, HX.out.2.1.output, HX.out.2.1.size, fun k hk => HX.out.2.1.block k (by omega) (fun e => by have := (hown.lt k e.symm).1; omega)⟩
    exact hb.setCell (by exact Nat.le_refl p) _
set_option maxRecDepth 100000 in
set_option maxHeartbeats 8000000 in
theorem var_any (p x : Nat) (xs : List UInt8) (w : World) (h : WAt p w xs) (hx : x ≤ 127) (hx9 : xs.length ≤ 1000000) :
    Calls Tryz.prog 104 #[.pointer (some ⟨p, 0, none⟩), .int .u64 x] w fun ev w' => ev = .returned (.tuple #[]) ∧ WAt p w' (xs ++ [UInt8.ofNat x]) ∧ Below p w w' := by
  obtain ⟨wx, hwx⟩ : ∃ y9 : World, w.alloc (.cells #[.int .u8 x] 5) = y9 := ⟨_, rfl⟩
  have HX : Hid (Below w.heap.size w wx) := Lib.hid (by rw [← hwx]; exact (Below.refl _ _).alloc (Nat.le_refl _) _)
  have RX : Hid (wx.heap[w.heap.size]? = some (.cells #[.int .u8 x] 5 (0, 0))) := Lib.hid (by rw [← hwx]; exact heap_at _ _ _ rfl)
  have hbx : (bytesV [UInt8.ofNat x]).toArray = #[.int .u8 x] := by
    have : (UInt8.ofNat x).toNat = x := by simp; omega
    simp [bytesV, byteV, this]
  have HPUT := Lib.hid (put_any p w.heap.size 0 1 1 xs [UInt8.ofNat x] wx (h.below HX.out) (range_row _ RX.out hbx) rfl (by omega) hx9 (by omega))
  have hpl := h.lt
  have e1 : decide ((127 : Int) < x) = false := by simp; omega
  have e2 : IntKind.u8.wrap (x : Int) = x := IntWalk.u8_in _ (by omega)
  have HWX := Lib.hid hwx
  clear h hwx hbx
  go_enter Tryz.func104, Tryz.ntmps104
  go_wp2
  go_loopw [1] (fun c wr => c = .int .u64 x ∧ wr = w) (fun _ _ => 0)
  case atStart => exact ⟨rfl, rfl⟩
  case round =>
    obtain ⟨rfl, rfl⟩ := hrel
    go_wp2_with fail
    rw [HWX.out]
    refine HPUT.out.mono ?_
    rintro ev w2 ⟨rfl, h2, b2⟩
    have H2 := Lib.hid (And.intro h2 b2)
    clear h2 b2
    go_wp2_with fail
    refine bodyPost_end (results_none rfl _ _ _) rfl ?_
    exact ⟨rfl, H2.out.1, (HX.out.mono (by omega)).trans H2.out.2⟩
set_option maxRecDepth 100000 in
set_option maxHeartbeats 8000000 in
theorem whash_any (p : Nat) (q : List UInt8) (xs : List UInt8) (w : World) (h : WAt p w xs) (hq : q.length = 32) (hx9 : xs.length ≤ 1000000) :
    Calls Tryz.prog 105 #[.pointer (some ⟨p, 0, none⟩), hv q] w fun ev w' => ev = .returned (.tuple #[]) ∧ WAt p w' (xs ++ q) ∧ Below p w w' := by
  obtain ⟨v0, ev0, Hv0, Zv0, Iv0, Ov0⟩ := row_of q hq
  obtain ⟨wv, hwv⟩ : ∃ y9 : World, (w.alloc (.cells v0 23)) = y9 := ⟨_, rfl⟩
  have HBv : Hid (Below w.heap.size w wv) := Lib.hid (by rw [← hwv]; exact ((Below.refl _ _).alloc (by simp <;> omega) _))
  have HSV : Hid (wv.heap.size = w.heap.size + 1) := Lib.hid (by rw [← hwv]; simp)
  have RA : Hid (wv.heap[w.heap.size]? = some (.cells v0 23 (0, 0))) := Lib.hid (by rw [← hwv]; exact heap_at _ _ _ (by simp <;> omega))
  have HWV := Lib.hid hwv
  have HPUT := Lib.hid (put_any p w.heap.size 0 32 32 xs q wv (h.below HBv.out) (range_row _ RA.out Hv0.out) hq (by omega) hx9 (by omega))
  have hpl := h.lt
  rw [ev0]
  clear h hwv ev0
  go_enter Tryz.func105, Tryz.ntmps105
  go_upto_region 1 with fail
  rw [HWV.out]
  go_wp2_with fail
  refine HPUT.out.mono ?_
  rintro ev w2 ⟨rfl, h2, b2⟩
  have H2 := Lib.hid (And.intro h2 b2)
  clear h2 b2
  go_wp2_with fail
  refine bodyPost_end (results_none rfl _ _ _) rfl ?_
  exact ⟨rfl, H2.out.1, (HBv.out.mono (by omega)).trans H2.out.2⟩
set_option maxRecDepth 100000 in
set_option maxHeartbeats 8000000 in
theorem done_any (p : Nat) (xs : List UInt8) (w : World) (h : WAt p w xs) (hne : xs ≠ []) :
    Calls Tryz.prog 106 #[.pointer (some ⟨p, 0, none⟩)] w fun ev w' => ev = .returned (.string ⟨xs.toArray⟩) ∧ w = w' := by
  obtain ⟨v, hrow, hown⟩ := h
  have hcs := hown
  rcases hown.2 with ⟨-, q⟩ | ⟨g, cap, cur, rfl, -⟩
  · exact absurd (List.eq_nil_of_length_eq_zero q) hne
  have c0 : w.cell? ⟨p, 0, none⟩ = some (.slice (some ⟨g, 0, none⟩) xs.length cap) := (cell_of_row w p 0 _ 240 (0, 0) hrow).trans rfl
  have kb := run_convert_bytes_back w 138 9 5 ⟨g, 0, none⟩ cap xs Tryz.underlying138 Tryz.underlying5 Tryz.underlying9 (fun j hj => hcs.cells (g := g) rfl j _ (bytesV_get (List.getElem?_eq_getElem hj)))
  obtain ⟨s, hs⟩ : ∃ s : ByteArray, ⟨xs.toArray⟩ = s := ⟨_, rfl⟩
  obtain ⟨n, hn⟩ : ∃ n, xs.length = n := ⟨_, rfl⟩
  rw [hn] at c0 kb
  rw [hs] at kb ⊢
  clear hcs hown hrow hs hn hne
  go_enter Tryz.func106, Tryz.ntmps106
  go_wp2
  go_ret
  exact ⟨rfl, rfl⟩
end Go.Proofs.YtnpblpbcchminaaGreatDoor
/- keys.Encode where the signature is one. Condition: the table reads as listed. -/
namespace Go.Proofs.YtnpblpbcchminaaGreatDoor
open Go.ChangeShapes Go.WideShapes Go.ChangeAt Go.RowKit
set_option linter.unusedVariables false
/-- a signature as bytes -/
def encB (x : Nat) (C : List (List UInt8)) (n : Nat) (P : List (List UInt8)) : List UInt8 := [UInt8.ofNat x] ++ C.flatten ++ [UInt8.ofNat n] ++ P.flatten
set_option maxRecDepth 100000 in
set_option maxHeartbeats 8000000 in
theorem enc_ok (x n : Nat) (A A2 : Option Addr) (c c2 : Nat) (C P : List (List UInt8)) (w : World) (hx : x < 64) (hn : n ≤ 6) (hC : HIn w A 67 c C) (hP : HIn w A2 n c2 P) :
    Calls Tryz.prog 26 #[.agg #[.int .i64 x, .slice A 67 c, .slice A2 n c2]] w fun ev w' => ev = .returned (.tuple #[.string ⟨(encB x C n P).toArray⟩, .nilIface]) ∧ Below w.heap.size w w' := by
  obtain ⟨sv, hsv9⟩ : ∃ y : Array Value, #[.int .i64 x, .slice A 67 c, .slice A2 n c2] = y := ⟨_, rfl⟩
  have Zsv : Hid (sv.size = 3) := Lib.hid (by rw [← hsv9]; rfl)
  have Isv : Hid ((Tryz.prog.info? 26).map (·.size) = some sv.size) := Lib.hid (by rw [Zsv.out]; kernel_rfl)
  obtain ⟨wv, hwv⟩ : ∃ y9 : World, (w.alloc (.cells sv 26)) = y9 := ⟨_, rfl⟩
  have HBv : Hid (Below w.heap.size w wv) := Lib.hid (by rw [← hwv]; exact ((Below.refl _ _).alloc (by simp <;> omega) _))
  have HSV : Hid (wv.heap.size = w.heap.size + 1) := Lib.hid (by rw [← hwv]; simp)
  have RS : Hid (wv.heap[w.heap.size]? = some (.cells sv 26 (0, 0))) := Lib.hid (by rw [← hwv]; exact heap_at _ _ _ (by simp <;> omega))
  have HWV := Lib.hid hwv
  have hsvv := HSV.out
  have HMAY : Hid (∀ w', Calls Tryz.prog 33 #[.agg sv] w' fun ev w2 => ev = .returned (.bool true) ∧ Below w'.heap.size w' w2) := Lib.hid (fun w' => by rw [← hsv9]; exact may_yes x n A A2 c c2 w' hx hn)
  have HKSA : Hid (∀ w' : World, w'.heap[w.heap.size]? = some (.cells sv 26 (0, 0)) → w'.cell? ⟨w.heap.size, 0, none⟩ = some (.int .i64 x) ∧ w'.cell? ⟨w.heap.size, 1, none⟩ = some (.slice A 67 c) ∧ w'.cell? ⟨w.heap.size, 2, none⟩ = some (.slice A2 n c2)) := Lib.hid (fun w' hg => by
    rw [← hsv9] at hg
    exact ⟨(cell_of_row w' _ 0 _ 26 (0, 0) hg).trans rfl, (cell_of_row w' _ 1 _ 26 (0, 0) hg).trans rfl, (cell_of_row w' _ 2 _ 26 (0, 0) hg).trans rfl⟩)
  have HC0 := Lib.hid (hC.below HBv.out)
  have HP0 := Lib.hid (hP.below HBv.out)
  have e1 : IntKind.u64.wrap (x : Int) = x := IntWalk.u64_in _ (by omega)
  have e2 : IntKind.u64.wrap (n : Int) = n := IntWalk.u64_in _ (by omega)
  rw [hsv9]
  clear hwv hsv9 hC hP
  go_enter Tryz.func26, Tryz.ntmps26
  go_upto_region 1 with fail
  rw [HWV.out]
  go_wp2_with (refine wpList_load_row rfl 26 _ rfl w.heap.size rfl 26 sv (0, 0) _ RS.out Tryz.underlying26 rfl Isv.out ?_)
  refine (HMAY.out wv).mono ?_
  rintro ev w1 ⟨rfl, b1⟩
  have B1 := Lib.hid b1
  have R1 := Lib.hid ((b1.block _ (by omega)).trans RS.out)
  have HC := Lib.hid (HC0.out.below b1)
  have HP := Lib.hid (HP0.out.below b1)
  clear b1
  obtain ⟨p, hpw⟩ : ∃ p, w1.heap.size = p := ⟨_, rfl⟩
  have PS : Hid (w1.heap.size = p ∧ w.heap.size < p) := Lib.hid ⟨hpw, by have := B1.out.size; omega⟩
  have KS : Hid (∀ w', Below p w1 w' → w'.cell? ⟨w.heap.size, 0, none⟩ = some (.int .i64 x) ∧ w'.cell? ⟨w.heap.size, 1, none⟩ = some (.slice A 67 c) ∧ w'.cell? ⟨w.heap.size, 2, none⟩ = some (.slice A2 n c2)) := Lib.hid (fun w' hw => HKSA.out w' ((hw.block _ PS.out.2).trans R1.out))
  have HNW : Hid (Calls Tryz.prog 103 #[] w1 fun ev w' => ev = .returned (.pointer (some ⟨p, 0, none⟩)) ∧ WAt p w' [] ∧ Below p w1 w') := Lib.hid (by rw [← hpw]; exact wnew_any w1)
  clear hpw
  go_upto_region 3 with fail
  go_wp2_with fail
  refine HNW.out.mono ?_
  rintro ev w2 ⟨rfl, hW2, b2⟩
  have HB2 := Lib.hid b2
  obtain ⟨y0, y1, y2⟩ := KS.out w2 b2
  have HV1 := Lib.hid (var_any p x [] w2 hW2 (by omega) (by simp))
  clear hW2 b2
  go_wp2_with fail
  refine HV1.out.mono ?_
  rintro ev w3 ⟨rfl, hW3, b3⟩
  have HW3 : Hid (WAt p w3 ([UInt8.ofNat x] ++ (C.take 0).flatten)) := Lib.hid (by simpa using hW3)
  have HB3 := Lib.hid (HB2.out.trans b3)
  obtain ⟨x0, x1, x2⟩ := KS.out w3 HB3.out
  clear hW3 b3 y0 y1 y2
  go_wp2_with fail
  go_loopw [22] (fun k wr => ∃ i : Nat, i ≤ 67 ∧ k = .int .i64 i ∧ Hid (WAt p wr ([UInt8.ofNat x] ++ (C.take i).flatten)) ∧ Hid (Below p w1 wr)) (fun k _ => 67 - (intOf k).toNat)
  case atStart => exact ⟨0, Nat.zero_le _, rfl, HW3, HB3⟩
  case round =>
    obtain ⟨i, hi, rfl, HW, HB⟩ := hrel
    have hps := HW.out.lt
    by_cases hlt : i < 67
    · obtain ⟨q, hq⟩ : ∃ q, C[i]? = some q := ⟨_, List.getElem?_eq_getElem (by have := HC.out.2.1; omega)⟩
      obtain ⟨g, o, rfl, gl, rp, pl⟩ := HC.out.row hq
      obtain ⟨vp, evp, Hvp, Zvp, Ivp, Ovp⟩ := row_of q pl
      obtain ⟨lvp, hlvp⟩ : ∃ y, bytesV q = y := ⟨_, rfl⟩
      have Elvp : Hid (lvp.toArray = vp) := Lib.hid (by rw [← hlvp]; exact Hvp.out)
      have Ilvp : Hid ((Tryz.prog.info? 23).map (·.size) = some lvp.length) := Lib.hid (by rw [← hlvp, bytesV_length, pl]; kernel_rfl)
      have HRP : Hid (wr.rangeAt g (o + i * 32) lvp) := Lib.hid (by rw [← hlvp]; exact rangeAt_below HB.out rp (by have := PS.out; omega))
      have i0 : (0 : Int) ≤ i := by omega
      have i1 : (i : Int) < 67 := by omega
      have HF := Lib.hid (flat_snoc hq)
      have HFL := Lib.hid (flat_len HC.out.1 i)
      have HWH : Hid (∀ w', Below wr.heap.size wr w' → Calls Tryz.prog 105 #[.pointer (some ⟨p, 0, none⟩), .agg vp] w' fun ev w2 => ev = .returned (.tuple #[]) ∧ WAt p w2 (([UInt8.ofNat x] ++ (C.take i).flatten) ++ q) ∧ Below p w' w2) := Lib.hid (fun w' hb => by
        have := whash_any p q _ w' (HW.out.below hb) pl (by have := HFL.out; simp only [List.length_append, List.length_cons, List.length_nil]; omega)
        rw [evp] at this; exact this)
      clear evp hlvp rp gl hq pl
      go_upto_region 8 with (first
        | (refine wpList_load_mid rfl 23 _ rfl g (o + i * 32) rfl lvp _ HRP.out Tryz.underlying23 rfl Ilvp.out ?_; rw [Elvp.out])
        | (refine wpList_store_row_any rfl 23 _ _ rfl wr.heap.size vp rfl rfl 23 _ (heap_at _ _ _ rfl) Ivp.out (by rw [Zvp.out]; rfl) Ovp.out ?_; intro w3 hbN hgN hsN; have B3 : Hid (Below wr.heap.size wr w3) := Lib.hid (((Below.refl _ wr).alloc (Nat.le_refl _) _).trans (hbN.to_below (by simp) (fun k hk q => by omega))); have R5 := Lib.hid hgN; clear hbN hgN hsN))
      go_wp2_with (refine wpList_load_row rfl 23 _ rfl wr.heap.size rfl 23 vp (0, 0) _ R5.out Tryz.underlying23 rfl Ivp.out ?_)
      refine (HWH.out w3 B3.out).mono ?_
      rintro ev w4 ⟨rfl, hW4, b4⟩
      have HW4 := Lib.hid hW4
      have HB4 := Lib.hid (HB.out.trans ((B3.out.mono (by omega)).trans b4))
      clear hW4 b4
      go_wp2_with fail
      go_roundw
      case rel => exact ⟨i + 1, by omega, by go_num, Lib.hid (by rw [HF.out, ← List.append_assoc]; exact HW4.out), HB4⟩
      case measure => simp [intOf]; omega
    · obtain rfl : 67 = i := by omega
      have HTK : Hid ((C.take 67).flatten = C.flatten) := Lib.hid (by rw [List.take_of_length_le (by have := HC.out.2.1; omega)])
      have HFL := Lib.hid (flat_len HC.out.1 67)
      rw [HTK.out] at HW HFL
      obtain ⟨wo, rfl⟩ : ∃ y9 : World, y9 = wr := ⟨_, rfl⟩
      have HFL0 := Lib.hid HFL.out
      have HV2 := Lib.hid (var_any p n _ wo HW.out (by omega) (by have := HFL.out; simp only [List.length_append, List.length_cons, List.length_nil]; omega))
      have KSo : Hid (wo.cell? ⟨w.heap.size, 2, none⟩ = some (.slice A2 n c2)) := Lib.hid (KS.out wo HB.out).2.2
      have z2 := KSo.out
      go_wp2_with fail
      refine HV2.out.mono ?_
      rintro ev w6 ⟨rfl, hW6, b6⟩
      have HW6 : Hid (WAt p w6 (([UInt8.ofNat x] ++ C.flatten ++ [UInt8.ofNat n]) ++ (P.take 0).flatten)) := Lib.hid (by simpa using hW6)
      have HB6 := Lib.hid (HB.out.trans b6)
      have z2' := (KS.out w6 HB6.out).2.2
      clear hW6 b6 z2
      go_wp2_with fail
      go_loopw [39] (fun k wr => ∃ i : Nat, i ≤ n ∧ k = .int .i64 i ∧ Hid (WAt p wr (([UInt8.ofNat x] ++ C.flatten ++ [UInt8.ofNat n]) ++ (P.take i).flatten)) ∧ Hid (Below p w1 wr)) (fun k _ => n - (intOf k).toNat)
      case atStart => exact ⟨0, Nat.zero_le _, rfl, HW6, HB6⟩
      case round =>
        obtain ⟨i, hi, rfl, HW, HB⟩ := hrel
        have hps := HW.out.lt
        by_cases hlt : i < n
        · obtain ⟨q, hq⟩ : ∃ q, P[i]? = some q := ⟨_, List.getElem?_eq_getElem (by have := HP.out.2.1; omega)⟩
          obtain ⟨g, o, rfl, gl, rp, pl⟩ := HP.out.row hq
          obtain ⟨vp, evp, Hvp, Zvp, Ivp, Ovp⟩ := row_of q pl
          obtain ⟨lvp, hlvp⟩ : ∃ y, bytesV q = y := ⟨_, rfl⟩
          have Elvp : Hid (lvp.toArray = vp) := Lib.hid (by rw [← hlvp]; exact Hvp.out)
          have Ilvp : Hid ((Tryz.prog.info? 23).map (·.size) = some lvp.length) := Lib.hid (by rw [← hlvp, bytesV_length, pl]; kernel_rfl)
          have HRP : Hid (wr.rangeAt g (o + i * 32) lvp) := Lib.hid (by rw [← hlvp]; exact rangeAt_below HB.out rp (by have := PS.out; omega))
          have i0 : (0 : Int) ≤ i := by omega
          have i1 : (i : Int) < n := by omega
          have HF := Lib.hid (flat_snoc hq)
          have HFL := Lib.hid (flat_len HP.out.1 i)
          have HWH : Hid (∀ w', Below wr.heap.size wr w' → Calls Tryz.prog 105 #[.pointer (some ⟨p, 0, none⟩), .agg vp] w' fun ev w2 => ev = .returned (.tuple #[]) ∧ WAt p w2 ((([UInt8.ofNat x] ++ C.flatten ++ [UInt8.ofNat n]) ++ (P.take i).flatten) ++ q) ∧ Below p w' w2) := Lib.hid (fun w' hb => by
            have := whash_any p q _ w' (HW.out.below hb) pl (by have := HFL.out; have := HFL0.out; simp only [List.length_append, List.length_cons, List.length_nil]; omega)
            rw [evp] at this; exact this)
          clear evp hlvp rp gl hq pl
          go_upto_region 14 with (first
            | (refine wpList_load_mid rfl 23 _ rfl g (o + i * 32) rfl lvp _ HRP.out Tryz.underlying23 rfl Ilvp.out ?_; rw [Elvp.out])
            | (refine wpList_store_row_any rfl 23 _ _ rfl wr.heap.size vp rfl rfl 23 _ (heap_at _ _ _ rfl) Ivp.out (by rw [Zvp.out]; rfl) Ovp.out ?_; intro w3 hbN hgN hsN; have B3 : Hid (Below wr.heap.size wr w3) := Lib.hid (((Below.refl _ wr).alloc (Nat.le_refl _) _).trans (hbN.to_below (by simp) (fun k hk q => by omega))); have R5 := Lib.hid hgN; clear hbN hgN hsN))
          go_wp2_with (refine wpList_load_row rfl 23 _ rfl wr.heap.size rfl 23 vp (0, 0) _ R5.out Tryz.underlying23 rfl Ivp.out ?_)
          refine (HWH.out w3 B3.out).mono ?_
          rintro ev w4 ⟨rfl, hW4, b4⟩
          have HW4 := Lib.hid hW4
          have HB4 := Lib.hid (HB.out.trans ((B3.out.mono (by omega)).trans b4))
          clear hW4 b4
          go_wp2_with fail
          go_roundw
          case rel => exact ⟨i + 1, by omega, by go_num, Lib.hid (by rw [HF.out, ← List.append_assoc]; exact HW4.out), HB4⟩
          case measure => simp [intOf]; omega
        · obtain rfl : n = i := by omega
          have HTK : Hid ((P.take n).flatten = P.flatten) := Lib.hid (by rw [List.take_of_length_le (by have := HP.out.2.1; omega)])
          have HFL := Lib.hid (flat_len HP.out.1 n)
          rw [HTK.out] at HW HFL
          have HDN := Lib.hid (done_any p _ wr HW.out (by simp))
          obtain ⟨st, hst⟩ : ∃ y : ByteArray, ⟨([UInt8.ofNat x] ++ C.flatten ++ [UInt8.ofNat n] ++ P.flatten).toArray⟩ = y := ⟨_, rfl⟩
          rw [hst] at HDN
          have HBW := Lib.hid ((B1.out.trans (HB.out.mono (by have := PS.out; have := B1.out.size; omega))))
          have HST : Hid (({ data := (encB x C n P).toArray } : ByteArray) = st) := Lib.hid hst
          clear hst
          go_wp2_with fail
          refine HDN.out.mono ?_
          rintro ev w9 ⟨rfl, rfl⟩
          go_wp2_with fail
          refine bodyPost_ret (v := .tuple #[.string st, .nilIface]) (by simp [results, Tryz.results26, go_sem]) rfl ⟨by rw [HST.out], HBv.out.trans (HBW.out.mono HBv.out.size)⟩
end Go.Proofs.YtnpblpbcchminaaGreatDoor
