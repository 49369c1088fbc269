/- cartularylaw08.grown: a log of texts; those too long are refused. Condition: the package-level variables read as listed. -/
import Derived.Test.YtmfngcnmacjbfaaDoorNaiveHashes
import Derived.Test.YtmfngcnmacjbfaaDoorTexts
namespace Go.Proofs.YtmfngcnmacjbfaaDoor
open Go.ChangeShapes Go.WideShapes Go.ChangeAt Go.RowKit
set_option linter.unusedVariables false
/-- the texts that a log takes -/
def keptL (D : List ByteArray) : List ByteArray := D.filter fun s => decide (s.size ≤ 65536)
theorem keptL_hit {D : List ByteArray} {k : Nat} {s : ByteArray} (h : D[k]? = some s) (hs : s.size ≤ 65536) : keptL (D.take (k + 1)) = keptL (D.take k) ++ [s] := by
  unfold keptL; rw [List.take_add_one, h]; simp [hs]
theorem keptL_miss {D : List ByteArray} {k : Nat} {s : ByteArray} (h : D[k]? = some s) (hs : ¬ s.size ≤ 65536) : keptL (D.take (k + 1)) = keptL (D.take k) := by
  unfold keptL; rw [List.take_add_one, h]; simp [hs]
theorem keptL_len (D : List ByteArray) (k : Nat) : (keptL (D.take k)).length ≤ k := Nat.le_trans (List.length_filter_le _ _) (by simp; omega)
theorem Coll.below_of {Bl : Nat} {w w' : World} {v v' : Value} (h : Coll Bl w w' v v') {B : Nat} (hB : B ≤ Bl) (hs : B ≤ w.heap.size) (hv : ∀ k, v.ownBlock = some k → B ≤ k) : Below B w w' :=
  ⟨h.os, h.tape, h.output, h.size, fun k hk => h.same k (by omega) (by omega) (fun e => by have := hv k e.symm; omega)⟩
theorem LogAt.own_ge {base b : Nat} {v : Value} {L : List ByteArray} {w : World} (h : LogAt base b v L w) : ∀ k, v.ownBlock = some k → base ≤ k := fun k hk => (h.2.2.2.1.lt k hk).1
attribute [irreducible] keptL
set_option maxRecDepth 100000 in
set_option maxHeartbeats 4000000 in
theorem grown_any (a : Nat → Addr) (B : Nat) (D : List ByteArray) (A : Option Addr) (n c : Nat) (w : World) (hE : Env B a w) (h : SIn w A n c D) (hn : n ≤ 1048576) :
    Calls Tryd.prog 25 #[.slice A n c] w fun ev w' => ∃ b v, ev = .returned (.tuple #[.pointer (some ⟨b, 0, none⟩), .int .i64 (keptL D).length, .bool true]) ∧ LogAt w.heap.size b v (keptL D) w' ∧ Below w.heap.size w w' := by
  have HE := Lib.hid hE
  have HD := Lib.hid h
  have HNEW := Lib.hid (fun w0 h => new_log w.heap.size w0 h)
  have HAP := Lib.hid (fun b v L s w0 h h1 h2 h3 => append_ok w.heap.size b v L s w0 h h1 h2 h3)
  have HBAD := Lib.hid (fun b v L s w0 hE h hb => append_bad a B w.heap.size b v L s w0 hE h hb)
  have HIS := Lib.hid (fun w0 hE => is_sent a B 4 w0 hE (by omega) (by omega))
  have HZ := Lib.hid (fun b v L w0 h => lsize_any w.heap.size b v L w0 h)
  clear hE h
  go_enter Tryd.func25, Tryd.ntmps25
  go_wp2_with fail
  refine (HNEW.out _ (Nat.le_refl _)).mono ?_
  rintro e w1 ⟨rfl, hL1, hB1⟩
  have hL1' := Lib.hid hL1
  have hB1' := Lib.hid hB1
  obtain ⟨b, hb⟩ : ∃ b, w.heap.size = b := ⟨_, rfl⟩
  have HBB := Lib.hid hb
  clear hL1 hB1
  rw [hb] at hL1' ⊢
  clear hb
  go_wp2
  go_loopw [6, 7] (fun m i wr => ∃ (k q : Nat) (v : Value), k ≤ n ∧ i = .int .i64 k ∧ m = .int .i64 q ∧ q ≤ k ∧ Hid (q = (keptL (D.take k)).length) ∧ Hid (LogAt w.heap.size b v (keptL (D.take k)) wr) ∧ Hid (Below w.heap.size w wr)) (fun _ i _ => n - (intOf i).toNat)
  case atStart => exact ⟨0, 0, .slice none 0 0, Nat.zero_le _, rfl, rfl, Nat.le_refl _, Lib.hid (by unfold keptL; simp), Lib.hid (by have := hL1'.out; unfold keptL; rw [HBB.out]; simpa using this), hB1'⟩
  case round =>
    obtain ⟨k, q, v, hk, rfl, rfl, hqk, HQ, HL, HB⟩ := hrel
    by_cases hlt : k < n
    · obtain ⟨s, hs⟩ : ∃ s, D[k]? = some s := ⟨_, List.getElem?_eq_getElem (by have := HD.out.1; omega)⟩
      obtain ⟨g, o, rfl, hc0, hg, hsz⟩ := HD.out.at hs
      have hc := cell_below HB.out hc0 hg
      have i0 : (0 : Int) ≤ k := by omega
      have i1 : (k : Int) < n := by omega
      have q1 : (q : Int) < 1048576 := by omega
      have hq2 : decide ((1048576 : Int) ≤ q) = false := by simp; omega
      have hEr := Lib.hid (HE.out.step HB.out)
      have hsl : (s.size : Int) ≤ 140737488355328 := by omega
      by_cases hs6 : s.size ≤ 65536
      · have hs7 : decide ((65536 : Int) < (s.size : Int)) = false := by simp; omega
        have HS := Lib.hid (keptL_hit hs hs6)
        have HA := Lib.hid (HAP.out b v (keptL (D.take k)) s wr HL.out hs6 (by have := HQ.out; omega) HB.out.size)
        have HQI : Hid ((((keptL (D.take k)).length : Nat) : Int) = q) := Lib.hid (by have := HQ.out; omega)
        have hwq : IntKind.u64.wrap (q : Int) = q := IntWalk.u64_in _ (by omega)
        have HC0 := Lib.hid (And.intro hc0 hg)
        clear hs hs6 hc0 hg
        go_wp2_with fail
        refine HA.out.mono ?_
        rintro e w2 ⟨rfl, v2, hL2, hC2⟩
        rw [HQI.out]
        have HL2 := Lib.hid hL2
        have HB2 := Lib.hid (HB.out.trans (hC2.below_of HL.out.2.1 HB.out.size HL.out.own_ge))
        clear hL2 hC2
        have hc2 := cell_below HB2.out HC0.out.1 HC0.out.2
        go_wp2
        go_roundw
        case rel => exact ⟨k + 1, q + 1, v2, by omega, by go_num, by go_num, by omega, Lib.hid (by rw [HS.out, List.length_append]; have := HQ.out; simp; omega), Lib.hid (by rw [HS.out]; exact HL2.out), HB2⟩
        case measure => simp [intOf]; omega
      · have hs7 : (65536 : Int) < (s.size : Int) := by omega
        have HS := Lib.hid (keptL_miss hs hs6)
        have HA := Lib.hid (HBAD.out b v (keptL (D.take k)) s wr hEr.out HL.out (.inl (by omega)))
        have HC0 := Lib.hid (And.intro hc0 hg)
        clear hs hs6 hc0 hg
        go_wp2_with fail
        refine HA.out.mono ?_
        rintro e w2 ⟨rfl, hb2⟩
        have HL2 := Lib.hid (HL.out.below hb2)
        have HB2 := Lib.hid (HB.out.trans (hb2.mono HB.out.size))
        have HE2 := Lib.hid (hEr.out.step hb2)
        clear hb2
        have hc2 := cell_below HB2.out HC0.out.1 HC0.out.2
        unfold errV
        go_wp2_with fail
        change Calls _ _ #[errV a 4, _] _ _
        refine (HIS.out w2 HE2.out.laid).mono ?_
        rintro e w3 ⟨rfl, hb3⟩
        have HL3 := Lib.hid (HL2.out.below hb3)
        have HB3 := Lib.hid (HB2.out.trans (hb3.mono HB2.out.size))
        clear hb3
        go_wp2
        go_roundw
        case rel => exact ⟨k + 1, q, v, by omega, by go_num, rfl, by omega, Lib.hid (by rw [HS.out]; exact HQ.out), Lib.hid (by rw [HS.out]; exact HL3.out), HB3⟩
        case measure => simp [intOf]; omega
    · obtain rfl : k = n := by omega
      have HK : Hid (D.take k = D) := Lib.hid (List.take_of_length_le (by have := HD.out.1; omega))
      rw [HK.out] at HQ HL
      have HZ2 := Lib.hid (HZ.out b v _ wr HL.out)
      have HQI : Hid ((((keptL D).length : Nat) : Int) = q) := Lib.hid (by have := HQ.out; omega)
      have hwq : IntKind.u64.wrap (q : Int) = q := IntWalk.u64_in _ (by omega)
      have t1 : ((q : Int) == q) = true := by simp
      go_wp2_with (go_at_call 34; refine HZ2.out.mono ?_; rintro e w' ⟨rfl, rfl⟩; rw [HQI.out])
      refine bodyPost_ret (v := .tuple #[.pointer (some ⟨b, 0, none⟩), .int .i64 q, .bool true]) (by simp [results, Tryd.results25, go_sem]) rfl ⟨b, v, by rw [HQI.out], HL.out, HB.out⟩
end Go.Proofs.YtmfngcnmacjbfaaDoor
