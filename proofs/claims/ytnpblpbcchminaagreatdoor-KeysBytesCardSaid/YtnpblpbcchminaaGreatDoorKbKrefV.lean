import Derived.Test.YtnpblpbcchminaaGreatDoorKbKrefR
/- cartularyref02.Reader: Var. Condition: the table reads as listed. -/
namespace Go.Proofs.YtnpblpbcchminaaGreatDoor
open Go.ChangeShapes Go.WideShapes Go.ChangeAt Go.RowKit
set_option linter.unusedVariables false
def QV_ (p at0 : Nat) (S : ByteArray) (w : World) (ev : Ending) (w' : World) : Prop := (match numF 0 0 ((bOf S).drop at0) with
  | some (v, k) => ev = .returned (.int .u64 v) ∧ QOk p w' S (at0 + k)
  | none => ev = .returned (.int .u64 0) ∧ QBad p w' S) ∧ But (· = p) w w'
set_option maxRecDepth 100000 in
set_option maxHeartbeats 8000000 in
theorem qvar_ok (p at0 : Nat) (S : ByteArray) (w : World) (h : QOk p w S at0) :
    Calls Tryz.prog 114 #[.pointer (some ⟨p, 0, none⟩)] w fun ev w' => QV_ p at0 S w ev w' := by
  have HB9 := Lib.hid (qbad_ok p at0 S w h)
  have HH := Lib.hid h
  have hi9 := h.2
  have HPL := Lib.hid (fun w' => placed_any at0 w')
  have HFL : Hid (∀ w', Below w.heap.size w w' → Calls Tryz.prog 179 #[.pointer (some ⟨p, 0, none⟩), .agg #[.int .i64 3, .int .i64 (at0 : Nat)]] w' fun ev w2 => ev = .returned (.tuple #[]) ∧ QBad p w2 S ∧ But (· = p) w' w2) := Lib.hid (fun w' hb => qfail_ok p at0 at0 S w' (HH.out.below hb))
  clear h
  go_enter Tryz.func114, Tryz.ntmps114
  go_wp2_with fail
  refine HB9.out.mono ?_
  rintro ev w1 ⟨rfl, rfl⟩
  go_wp2_with fail
  go_loopw [3, 4, 5] (fun n s k wr => ∃ i acc sc : Nat, (i ≤ 9 ∧ at0 + i ≤ S.size) ∧ n = .int .u64 acc ∧ s = .int .u64 sc ∧ k = .int .i64 i ∧ Hid (acc < 2 ^ (7 * i)) ∧ Hid (sc = 2 ^ (7 * i)) ∧ Hid (Below w.heap.size w wr) ∧ Hid (numF 0 0 ((bOf S).drop at0) = numF i acc ((bOf S).drop (at0 + i)))) (fun _ _ k _ => 10 - (intOf k).toNat)
  case atStart => exact ⟨0, 0, 1, ⟨by omega, by omega⟩, rfl, rfl, rfl, Lib.hid (by decide), Lib.hid rfl, Lib.hid (Below.refl _ _), Lib.hid rfl⟩
  case round =>
    obtain ⟨i, acc, sc, hi, rfl, rfl, rfl, HA, HSC, HB, HN⟩ := hrel
    have hpl := HH.out.lt
    have HRr : Hid (wr.heap[p]? = some (.cells #[.string S, .int .i64 (at0 : Nat), .int .i64 0, .int .i64 0] 126 (0, 0))) := Lib.hid ((HB.out.block _ hpl).trans HH.out.1)
    have hrow := HRr.out
    have c0 : wr.cell? ⟨p, 0, none⟩ = some (.string S) := (cell_of_row wr p 0 _ 126 (0, 0) hrow).trans rfl
    have c1 : wr.cell? ⟨p, 1, none⟩ = some (.int .i64 (at0 : Nat)) := (cell_of_row wr p 1 _ 126 (0, 0) hrow).trans rfl
    have c2 : wr.cell? ⟨p, 2, none⟩ = some (.int .i64 0) := (cell_of_row wr p 2 _ 126 (0, 0) hrow).trans rfl
    have c3 : wr.cell? ⟨p, 3, none⟩ = some (.int .i64 0) := (cell_of_row wr p 3 _ 126 (0, 0) hrow).trans rfl
    have f1 := frozen_of_row wr p 1 _ 126 hrow
    have f10 : decide ((i : Int) < 10) = true := by simp; omega
    have e1 : IntKind.i64.wrap ((at0 : Int) + i) = (at0 : Int) + i := IntWalk.i64_in _ (by omega)
    clear hrow
    by_cases hend : at0 + i < S.size
    · obtain ⟨b, hb⟩ : ∃ b, (bOf S)[at0 + i]? = some b := ⟨_, List.getElem?_eq_getElem (by rw [bOf_length]; exact hend)⟩
      have hdr : (bOf S).drop (at0 + i) = b :: (bOf S).drop (at0 + (i + 1)) := by
        rw [List.drop_eq_getElem_cons (List.getElem?_eq_some_iff.1 hb).1, (List.getElem?_eq_some_iff.1 hb).2]; rfl
      rw [hdr] at HN
      have HN := Lib.hid HN.out
      have hbi : ∀ (h : at0 + i < S.size), S[at0 + i]'h = b := fun h => by
        have h2 := hb
        rw [List.getElem?_eq_getElem (by rw [bOf_length]; exact h)] at h2
        injection h2
      clear hb hdr
      have e4 : IntKind.u64.wrap (b.toNat : Int) = (b.toNat : Int) := IntWalk.u64_in _ (by have := b.toNat_lt; omega)
      have f2 : decide ((at0 : Int) + i < S.size) = true := by simp; omega
      have k0 : (0 : Int) ≤ (at0 : Int) + i := by omega
      have k2 : (at0 : Int) + i < S.size := by omega
      have k3 : ((at0 : Int) + i).toNat = at0 + i := by omega
      have e5 : IntKind.i64.wrap ((at0 : Int) + i + 1) = (at0 : Int) + i + 1 := IntWalk.i64_in _ (by omega)
      go_upto_region 6 with fail
      go_quiet (fail)
      go_upto_region 8 with fail
      go_quiet (fail)
      go_upto_region 9 with fail
      obtain ⟨x, hx⟩ : ∃ x, b.toNat = x := ⟨_, rfl⟩
      have hx9 : x < 256 := by rw [← hx]; exact b.toNat_lt
      have HX := Lib.hid hx
      rw [hx]
      clear hx e4 hbi f2 k0 k2 k3 f10
      by_cases hbad : (i = 9 ∧ 1 < x) ∨ (0 < i ∧ x = 0)
      · have HNS : Hid (numF 0 0 ((bOf S).drop at0) = none) := Lib.hid (by rw [HN.out, numF, HX.out, if_pos hbad])
        by_cases hi9 : i = 9
        · have f9 : ((i : Int) == 9) = true := by simp; omega
          by_cases hy : 1 < x
          · have fy : decide ((1 : Int) < x) = true := by simp; omega
            clear hbad hi9 hy
            go_upto_region 15 with fail
            go_wp2_with fail
            refine (HPL.out _).mono ?_
            rintro ev w2 ⟨rfl, b2⟩
            have B2 := Lib.hid ((below_drewN (HB.out)).trans (b2.mono (by simpa using HB.out.size)))
            clear b2
            go_wp2_with fail
            refine (HFL.out w2 B2.out).mono ?_
            rintro ev w3 ⟨rfl, q3, b3⟩
            have Q3 := Lib.hid q3
            have B3 := Lib.hid ((but_of p B2.out).trans b3)
            clear q3 b3
            go_wp2_with fail
            go_ret
            unfold QV_
            rw [HNS.out]
            exact ⟨⟨rfl, Q3.out⟩, B3.out⟩
          · have fy : decide ((1 : Int) < x) = false := by simp; omega
            have f0 : decide ((0 : Int) < i) = true := by simp; omega
            have f0n : decide (0 < i) = true := by simp; omega
            have fx : ((x : Int) == 0) = true := by simp; omega
            clear hbad hi9 hy
            go_upto_region 15 with fail
            go_wp2_with fail
            refine (HPL.out _).mono ?_
            rintro ev w2 ⟨rfl, b2⟩
            have B2 := Lib.hid ((below_drewN (HB.out)).trans (b2.mono (by simpa using HB.out.size)))
            clear b2
            go_wp2_with fail
            refine (HFL.out w2 B2.out).mono ?_
            rintro ev w3 ⟨rfl, q3, b3⟩
            have Q3 := Lib.hid q3
            have B3 := Lib.hid ((but_of p B2.out).trans b3)
            clear q3 b3
            go_wp2_with fail
            go_ret
            unfold QV_
            rw [HNS.out]
            exact ⟨⟨rfl, Q3.out⟩, B3.out⟩
        · have f9 : ((i : Int) == 9) = false := by simp; omega
          have f0 : decide ((0 : Int) < i) = true := by simp; omega
          have f0n : decide (0 < i) = true := by simp; omega
          have fx : ((x : Int) == 0) = true := by simp; omega
          clear hbad hi9
          go_upto_region 15 with fail
          go_wp2_with fail
          refine (HPL.out _).mono ?_
          rintro ev w2 ⟨rfl, b2⟩
          have B2 := Lib.hid ((below_drewN (HB.out)).trans (b2.mono (by simpa using HB.out.size)))
          clear b2
          go_wp2_with fail
          refine (HFL.out w2 B2.out).mono ?_
          rintro ev w3 ⟨rfl, q3, b3⟩
          have Q3 := Lib.hid q3
          have B3 := Lib.hid ((but_of p B2.out).trans b3)
          clear q3 b3
          go_wp2_with fail
          go_ret
          unfold QV_
          rw [HNS.out]
          exact ⟨⟨rfl, Q3.out⟩, B3.out⟩
      · have hgood := hbad
        clear hbad
        by_cases hi9 : i = 9
        · obtain rfl : x = 1 := by omega
          subst hi9
          have hac : acc < 2 ^ 63 := HA.out
          have hsc : sc = 2 ^ 63 := HSC.out
          subst hsc
          have m2 : IntKind.u64.wrap ((acc : Int) + 9223372036854775808) = (acc : Int) + 9223372036854775808 := IntWalk.u64_in _ (by omega)
          have HNS : Hid (numF 0 0 ((bOf S).drop at0) = some (acc + 1 % 128 * 2 ^ (7 * 9), 9 + 1)) := Lib.hid (by rw [HN.out, numF, HX.out, if_neg (by omega), if_pos (by omega)])
          have hkn : at0 + (9 + 1) ≤ S.size := by omega
          clear hgood hac
          go_wp2_with fail
          go_ret
          unfold QV_
          rw [HNS.out]
          refine ⟨?_, (but_of p (below_drewN HB.out)).setCell _ _ _ (fun _ => rfl)⟩
          refine ⟨?_, ?_, hkn, HH.out.2.2⟩
          · rfl
          · have := heap_setCell_same _ p 1 _ 126 (.int .i64 ((at0 : Int) + 9 + 1)) HRr.out
            rw [show ((at0 + (9 + 1) : Nat) : Int) = (at0 : Int) + 9 + 1 by omega]
            exact this
        · have f9 : ((i : Int) == 9) = false := by simp; omega
          by_cases hi0 : i = 0
          · have f0 : decide ((0 : Int) < i) = false := by simp; omega
            have f0n : decide (0 < i) = false := by simp; omega
            have hi8 : i ≤ 8 := by omega
            clear hi9 hi0
            have hsc : sc ≤ 2 ^ 56 := by rw [HSC.out]; exact Nat.pow_le_pow_right (by omega) (by omega)
            obtain ⟨y, hy⟩ : ∃ y, x % 128 = y := ⟨_, rfl⟩
            have hy9 : y < 128 := by omega
            obtain ⟨z, hz⟩ : ∃ z, sc * y = z := ⟨_, rfl⟩
            have hz9 : z ≤ 2 ^ 56 * 127 := by rw [← hz]; exact Nat.mul_le_mul hsc (by omega)
            have hac : acc < 2 ^ 56 := Nat.lt_of_lt_of_le HA.out (Nat.pow_le_pow_right (by omega) (by omega))
            have ha : (x : Int) % 128 = (y : Int) := by omega
            have m1 : IntKind.u64.wrap ((sc : Int) * y) = (z : Int) := by
              rw [show (sc : Int) * y = (z : Int) by rw [← hz]; push_cast; rfl]
              exact IntWalk.u64_in _ (by omega)
            have m2 : IntKind.u64.wrap ((acc : Int) + z) = (acc : Int) + z := IntWalk.u64_in _ (by omega)
            have m3 : IntKind.u64.wrap ((sc : Int) * 128) = (sc : Int) * 128 := IntWalk.u64_in _ (by omega)
            have HYZ : Hid (x % 128 * 2 ^ (7 * i) = z) := Lib.hid (by rw [hy, ← HSC.out, Nat.mul_comm]; exact hz)
            have HLIM : Hid (acc + z < 2 ^ (7 * (i + 1))) := Lib.hid (by
              have h1 := HA.out
              rw [show 7 * (i + 1) = 7 * i + 7 by omega, Nat.pow_add, ← HSC.out] 
              rw [← HSC.out] at h1
              have h2 := Nat.mul_le_mul_left sc (show y + 1 ≤ 2 ^ 7 by omega)
              rw [Nat.mul_add, Nat.mul_one, hz] at h2
              omega)
            have HS2 : Hid (sc * 128 = 2 ^ (7 * (i + 1))) := Lib.hid (by rw [show 7 * (i + 1) = 7 * i + 7 by omega, Nat.pow_add, ← HSC.out])
            clear hy hz hsc hz9 hac
            by_cases hl : x < 128
            · have l1 : decide ((x : Int) < 128) = true := by simp; omega
              have HNS : Hid (numF 0 0 ((bOf S).drop at0) = some (acc + z, i + 1)) := Lib.hid (by rw [HN.out, numF, HX.out, if_neg hgood, if_pos hl, HYZ.out])
              have hkn : at0 + (i + 1) ≤ S.size := by omega
              clear hgood
              go_wp2_with fail
              go_ret
              unfold QV_
              rw [HNS.out]
              refine ⟨?_, (but_of p (below_drewN HB.out)).setCell _ _ _ (fun _ => rfl)⟩
              refine ⟨?_, ?_, hkn, HH.out.2.2⟩
              · rw [show ((acc + z : Nat) : Int) = (acc : Int) + z by push_cast; rfl]; rfl
              · have := heap_setCell_same _ p 1 _ 126 (.int .i64 ((at0 : Int) + i + 1)) HRr.out
                rw [show ((at0 + (i + 1) : Nat) : Int) = (at0 : Int) + i + 1 by omega]
                exact this
            · have l1 : decide ((x : Int) < 128) = false := by simp; omega
              have HNS : Hid (numF 0 0 ((bOf S).drop at0) = numF (i + 1) (acc + z) ((bOf S).drop (at0 + (i + 1)))) := Lib.hid (by rw [HN.out, numF, HX.out, if_neg hgood, if_neg hl, HYZ.out])
              clear hgood
              go_wp2_with fail
              go_roundw
              case rel => exact ⟨i + 1, acc + z, sc * 128, ⟨by omega, by omega⟩, by push_cast; rfl, by push_cast; rfl, by go_num, HLIM, HS2, Lib.hid (below_drewN HB.out), HNS⟩
              case measure => simp [intOf] <;> omega
          · have f0 : decide ((0 : Int) < i) = true := by simp; omega
            have f0n : decide (0 < i) = true := by simp; omega
            have fx : ((x : Int) == 0) = false := by simp; omega
            have hi8 : i ≤ 8 := by omega
            clear hi9 hi0
            have hsc : sc ≤ 2 ^ 56 := by rw [HSC.out]; exact Nat.pow_le_pow_right (by omega) (by omega)
            obtain ⟨y, hy⟩ : ∃ y, x % 128 = y := ⟨_, rfl⟩
            have hy9 : y < 128 := by omega
            obtain ⟨z, hz⟩ : ∃ z, sc * y = z := ⟨_, rfl⟩
            have hz9 : z ≤ 2 ^ 56 * 127 := by rw [← hz]; exact Nat.mul_le_mul hsc (by omega)
            have hac : acc < 2 ^ 56 := Nat.lt_of_lt_of_le HA.out (Nat.pow_le_pow_right (by omega) (by omega))
            have ha : (x : Int) % 128 = (y : Int) := by omega
            have m1 : IntKind.u64.wrap ((sc : Int) * y) = (z : Int) := by
              rw [show (sc : Int) * y = (z : Int) by rw [← hz]; push_cast; rfl]
              exact IntWalk.u64_in _ (by omega)
            have m2 : IntKind.u64.wrap ((acc : Int) + z) = (acc : Int) + z := IntWalk.u64_in _ (by omega)
            have m3 : IntKind.u64.wrap ((sc : Int) * 128) = (sc : Int) * 128 := IntWalk.u64_in _ (by omega)
            have HYZ : Hid (x % 128 * 2 ^ (7 * i) = z) := Lib.hid (by rw [hy, ← HSC.out, Nat.mul_comm]; exact hz)
            have HLIM : Hid (acc + z < 2 ^ (7 * (i + 1))) := Lib.hid (by
              have h1 := HA.out
              rw [show 7 * (i + 1) = 7 * i + 7 by omega, Nat.pow_add, ← HSC.out] 
              rw [← HSC.out] at h1
              have h2 := Nat.mul_le_mul_left sc (show y + 1 ≤ 2 ^ 7 by omega)
              rw [Nat.mul_add, Nat.mul_one, hz] at h2
              omega)
            have HS2 : Hid (sc * 128 = 2 ^ (7 * (i + 1))) := Lib.hid (by rw [show 7 * (i + 1) = 7 * i + 7 by omega, Nat.pow_add, ← HSC.out])
            clear hy hz hsc hz9 hac
            by_cases hl : x < 128
            · have l1 : decide ((x : Int) < 128) = true := by simp; omega
              have HNS : Hid (numF 0 0 ((bOf S).drop at0) = some (acc + z, i + 1)) := Lib.hid (by rw [HN.out, numF, HX.out, if_neg hgood, if_pos hl, HYZ.out])
              have hkn : at0 + (i + 1) ≤ S.size := by omega
              clear hgood
              go_wp2_with fail
              go_ret
              unfold QV_
              rw [HNS.out]
              refine ⟨?_, (but_of p (below_drewN HB.out)).setCell _ _ _ (fun _ => rfl)⟩
              refine ⟨?_, ?_, hkn, HH.out.2.2⟩
              · rw [show ((acc + z : Nat) : Int) = (acc : Int) + z by push_cast; rfl]; rfl
              · have := heap_setCell_same _ p 1 _ 126 (.int .i64 ((at0 : Int) + i + 1)) HRr.out
                rw [show ((at0 + (i + 1) : Nat) : Int) = (at0 : Int) + i + 1 by omega]
                exact this
            · have l1 : decide ((x : Int) < 128) = false := by simp; omega
              have HNS : Hid (numF 0 0 ((bOf S).drop at0) = numF (i + 1) (acc + z) ((bOf S).drop (at0 + (i + 1)))) := Lib.hid (by rw [HN.out, numF, HX.out, if_neg hgood, if_neg hl, HYZ.out])
              clear hgood
              go_wp2_with fail
              go_roundw
              case rel => exact ⟨i + 1, acc + z, sc * 128, ⟨by omega, by omega⟩, by push_cast; rfl, by push_cast; rfl, by go_num, HLIM, HS2, Lib.hid (below_drewN HB.out), HNS⟩
              case measure => simp [intOf] <;> omega
    · have HNS : Hid (numF 0 0 ((bOf S).drop at0) = none) := Lib.hid (by rw [HN.out, List.drop_eq_nil_of_le (by rw [bOf_length]; omega)]; rfl)
      have f2 : decide ((at0 : Int) + i < S.size) = false := by simp; omega
      go_upto_region 6 with fail
      go_quiet (fail)
      go_upto_region 15 with fail
      go_wp2_with fail
      refine (HPL.out _).mono ?_
      rintro ev w2 ⟨rfl, b2⟩
      have B2 := Lib.hid ((below_drewN (HB.out)).trans (b2.mono (by simpa using HB.out.size)))
      clear b2
      go_wp2_with fail
      refine (HFL.out w2 B2.out).mono ?_
      rintro ev w3 ⟨rfl, q3, b3⟩
      have Q3 := Lib.hid q3
      have B3 := Lib.hid ((but_of p B2.out).trans b3)
      clear q3 b3
      go_wp2_with fail
      go_ret
      unfold QV_
      rw [HNS.out]
      exact ⟨⟨rfl, Q3.out⟩, B3.out⟩
theorem qvar_st (p : Nat) (S : ByteArray) (o : Option Nat) (w : World) (h : QSt p w S o) :
    Calls Tryz.prog 114 #[.pointer (some ⟨p, 0, none⟩)] w fun ev w' => ev = .returned (.int .u64 (varS S o).1) ∧ QSt p w' S (varS S o).2 ∧ But (· = p) w w' := by
  cases o with
  | none =>
    have HB9 := Lib.hid (qbad_bad p S w h)
    have HH : Hid (QBad p w S) := Lib.hid h
    clear h
    go_enter Tryz.func114, Tryz.ntmps114
    go_wp2_with fail
    refine HB9.out.mono ?_
    rintro ev w1 ⟨rfl, rfl⟩
    go_wp2_with fail
    go_ret
    exact ⟨rfl, HH.out, But.refl _ _⟩
  | some i =>
    refine (qvar_ok p i S w h).mono ?_
    intro ev w' q
    unfold QV_ at q
    cases hn : numF 0 0 ((bOf S).drop i) with
    | none =>
      rw [hn] at q
      have e : varS S (some i) = (0, none) := by simp [varS, hn]
      rw [e]
      exact ⟨q.1.1, q.1.2, q.2⟩
    | some r =>
      obtain ⟨v, k⟩ := r
      rw [hn] at q
      have e : varS S (some i) = (v, some (i + k)) := by simp [varS, hn]
      rw [e]
      exact ⟨q.1.1, q.1.2, q.2⟩
end Go.Proofs.YtnpblpbcchminaaGreatDoor
