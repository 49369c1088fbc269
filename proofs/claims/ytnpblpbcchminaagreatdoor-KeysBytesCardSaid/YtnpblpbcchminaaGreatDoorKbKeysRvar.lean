import Derived.Test.YtnpblpbcchminaaGreatDoorKbKeysRend
/- codec: number, Reader.Var. Condition: the table reads as listed. -/
namespace Go.Proofs.YtnpblpbcchminaaGreatDoor
open Go.ChangeShapes Go.WideShapes Go.ChangeAt Go.RowKit
set_option linter.unusedVariables false
/-- a number's form from its byte i on: the number and how many bytes there are -/
def numF : Nat → Nat → List UInt8 → Option (Nat × Nat)
  | _, _, [] => none
  | i, n, b :: r => if (i = 9 ∧ 1 < b.toNat) ∨ (0 < i ∧ b.toNat = 0) then none else if b.toNat < 128 then some (n + b.toNat % 128 * 2 ^ (7 * i), i + 1) else numF (i + 1) (n + b.toNat % 128 * 2 ^ (7 * i)) r
theorem or_up {n c k : Nat} (h : n < 2 ^ k) : n ||| c * 2 ^ k = n + c * 2 ^ k := by
  rw [Nat.mul_comm, Nat.or_comm, ← Nat.two_pow_add_eq_or_of_lt h, Nat.add_comm]
theorem one_byte (S : ByteArray) (j : Nat) (b : UInt8) (h : (bOf S)[j]? = some b) : S.extract j (j + 1) = ⟨#[b]⟩ := by
  have e := extract_bOf S j 1
  rw [List.drop_eq_getElem_cons (List.getElem?_eq_some_iff.1 h).1, (List.getElem?_eq_some_iff.1 h).2] at e
  simp only [List.take_succ_cons, List.take_zero] at e
  obtain ⟨x, hx⟩ : ∃ x, S.extract j (j + 1) = x := ⟨_, rfl⟩
  rw [hx] at e ⊢
  obtain ⟨d⟩ := x
  have e2 : d.toList = [b] := e
  rw [show d = #[b] from Array.ext' e2]
def NumPost (p : Nat) (S : ByteArray) (at0 : Nat) (ev : Ending) (w w' : World) : Prop := (match numF 0 0 ((bOf S).drop at0) with
  | some (v, k) => ev = .returned (.tuple #[.int .u64 v, .bool true]) ∧ ROk p w' S (at0 + k)
  | none => ev = .returned (.tuple #[.int .u64 0, .bool false]) ∧ ∃ j, ROk p w' S j) ∧ But (· = p) w w'
set_option maxRecDepth 100000 in
set_option maxHeartbeats 8000000 in
theorem number_any (p at0 : Nat) (S : ByteArray) (w : World) (h : ROk p w S at0) :
    Calls Tryz.prog 173 #[.func (.func 174) #[.pointer (some ⟨p, 0, none⟩)] #[]] w fun ev w' => NumPost p S at0 ev w w' := by
  have H := Lib.hid h
  clear h
  go_enter Tryz.func173, Tryz.ntmps173
  go_wp2
  go_loopw [4, 5] (fun n k wr => ∃ i acc : Nat, i ≤ 9 ∧ n = .int .u64 acc ∧ k = .int .i64 i ∧ Hid (acc < 2 ^ (7 * i)) ∧ Hid (ROk p wr S (at0 + i)) ∧ Hid (But (· = p) w wr) ∧ Hid (numF 0 0 ((bOf S).drop at0) = numF i acc ((bOf S).drop (at0 + i)))) (fun _ k _ => 10 - (intOf k).toNat)
  case atStart => exact ⟨0, 0, by omega, rfl, rfl, Lib.hid (by decide), H, Lib.hid (But.refl _ _), Lib.hid rfl⟩
  case round =>
    obtain ⟨i, acc, hi, rfl, rfl, HA, HR, HB, HN⟩ := hrel
    by_cases hend : at0 + i < S.size
    · obtain ⟨b, hb⟩ : ∃ b, (bOf S)[at0 + i]? = some b := ⟨_, List.getElem?_eq_getElem (by rw [bOf_length]; exact hend)⟩
      have hnx := next_yes p (at0 + i) 1 S wr HR.out (by omega) (by omega)
      rw [one_byte S (at0 + i) b hb] at hnx
      have HNX := Lib.hid hnx
      have hdr : (bOf S).drop (at0 + i) = b :: (bOf S).drop (at0 + (i + 1)) := by
        rw [List.drop_eq_getElem_cons (List.getElem?_eq_some_iff.1 hb).1, (List.getElem?_eq_some_iff.1 hb).2]; rfl
      rw [hdr] at HN
      have HN := Lib.hid HN.out
      clear hnx hb hdr
      go_wp2_with fail
      go_at_call 174
      refine HNX.out.mono ?_
      rintro ev w1 ⟨rfl, hR1, b1⟩
      have HR1 := Lib.hid hR1
      have HB1 := Lib.hid (HB.out.trans b1)
      clear hR1 b1
      obtain ⟨x, hx⟩ : ∃ x, b.toNat = x := ⟨_, rfl⟩
      have hx9 : x < 256 := by rw [← hx]; exact b.toNat_lt
      have HX := Lib.hid hx
      have ha : bits .and .u8 (x : Int) 127 = ((x % 128 : Nat) : Int) := by
        have := and_u8 x 127 (by omega) (by omega)
        rw [show x &&& 127 = x % 128 from Nat.and_two_pow_sub_one_eq_mod x 7] at this
        exact this
      have HACC64 : Hid (acc < 2 ^ 64) := Lib.hid (Nat.lt_of_lt_of_le HA.out (Nat.pow_le_pow_right (by omega) (by omega)))
      by_cases hbad : (i = 9 ∧ 1 < x) ∨ (0 < i ∧ x = 0)
      · by_cases hi9 : i = 9
        · by_cases hy : 1 < x
          · have HNS : Hid (numF 0 0 ((bOf S).drop at0) = none) := Lib.hid (by rw [HN.out, numF, HX.out, if_pos hbad])
            have hbi : ∀ (h : 0 < (⟨#[b]⟩ : ByteArray).size), (⟨#[b]⟩ : ByteArray)[0]'h = b := fun _ => rfl
            have fy : decide ((1 : Int) < x) = true := by simp; omega
            subst hx
            clear hbad
            go_wp2_with fail
            go_ret2
            refine ⟨?_, HB1.out⟩
            rw [HNS.out]
            exact ⟨rfl, _, HR1.out⟩

          · have HNS : Hid (numF 0 0 ((bOf S).drop at0) = none) := Lib.hid (by rw [HN.out, numF, HX.out, if_pos hbad])
            have hbi : ∀ (h : 0 < (⟨#[b]⟩ : ByteArray).size), (⟨#[b]⟩ : ByteArray)[0]'h = b := fun _ => rfl
            have fy : decide ((1 : Int) < x) = false := by simp; omega
            have fx : ((x : Int) == 0) = true := by simp; omega
            subst hx
            clear hbad
            go_wp2_with fail
            go_ret2
            refine ⟨?_, HB1.out⟩
            rw [HNS.out]
            exact ⟨rfl, _, HR1.out⟩

        · have HNS : Hid (numF 0 0 ((bOf S).drop at0) = none) := Lib.hid (by rw [HN.out, numF, HX.out, if_pos hbad])
          have hbi : ∀ (h : 0 < (⟨#[b]⟩ : ByteArray).size), (⟨#[b]⟩ : ByteArray)[0]'h = b := fun _ => rfl
          have f9 : ((i : Int) == 9) = false := by simp; omega
          have f0 : decide ((0 : Int) < i) = true := by simp; omega
          have f0n : decide (0 < i) = true := by simp; omega
          have fx : ((x : Int) == 0) = true := by simp; omega
          subst hx
          clear hbad
          go_wp2_with fail
          go_ret2
          refine ⟨?_, HB1.out⟩
          rw [HNS.out]
          exact ⟨rfl, _, HR1.out⟩

      · have hgood := hbad
        clear hbad
        by_cases hi9 : i = 9
        · subst hi9
          have fy : decide ((1 : Int) < x) = false := by simp; omega
          have fx : ((x : Int) == 0) = false := by simp; omega
          obtain ⟨y, hy⟩ : ∃ y, x % 128 = y := ⟨_, rfl⟩
          obtain ⟨z, hz⟩ : ∃ z, y * 2 ^ (7 * 9) = z := ⟨_, rfl⟩
          have hzd : z < 18446744073709551616 := by
            obtain rfl : x = 1 := by omega
            rw [← hz, ← hy]; decide
          rw [hy] at ha
          have hw1 : IntKind.u64.wrap (y : Int) = (y : Int) := IntWalk.u64_in _ (by omega)
          have hw2 : IntKind.u64.wrap ((y : Int) * 9223372036854775808) = (z : Int) := by
            rw [show ((y : Int) * 9223372036854775808) = (z : Int) by rw [← hz, show (2 : Nat) ^ (7 * 9) = 9223372036854775808 from rfl]; omega]
            exact IntWalk.u64_in _ (by omega)
          have hacc := HA.out
          have hor : bits .or .u64 (acc : Int) (z : Int) = (acc : Int) + (z : Int) := by
            have h1 := (bits_nat .u64 64 (by decide) (fun n h h' => IntWalk.u64_in n (by simp at h'; omega)) acc z HACC64.out hzd).2
            rw [← hz, or_up hacc, hz] at h1
            rw [h1]; push_cast; rfl
          have HYZ : Hid (x % 128 * 2 ^ (7 * 9) = z) := Lib.hid (by rw [hy, hz])
          have hy128 : y < 128 := by omega
          have hbi : ∀ (h : 0 < (⟨#[b]⟩ : ByteArray).size), (⟨#[b]⟩ : ByteArray)[0]'h = b := fun _ => rfl
          by_cases hl : x < 128
          · have l1 : decide ((x : Int) < 128) = true := by simp; omega
            have HNS : Hid (numF 0 0 ((bOf S).drop at0) = some (acc + z, 9 + 1)) := Lib.hid (by rw [HN.out, numF, HX.out, if_neg hgood, if_pos hl, HYZ.out])
            subst hx
            clear hgood hacc hzd hy hz
            go_wp2_with fail
            go_ret2
            refine ⟨?_, HB1.out⟩
            rw [HNS.out]
            exact ⟨by rw [show ((acc + z : Nat) : Int) = (acc : Int) + (z : Int) by push_cast; rfl]; rfl, by have := HR1.out; rwa [Nat.add_assoc] at this⟩
          · exfalso; omega

        · by_cases hi0 : i = 0
          · subst hi0
            obtain ⟨y, hy⟩ : ∃ y, x % 128 = y := ⟨_, rfl⟩
            obtain ⟨z, hz⟩ : ∃ z, y * 2 ^ (7 * 0) = z := ⟨_, rfl⟩
            have hzd : z < 18446744073709551616 := by
              rw [← hz, Nat.mul_zero, Nat.pow_zero]; omega
            rw [hy] at ha
            have hw1 : IntKind.u64.wrap (y : Int) = (y : Int) := IntWalk.u64_in _ (by omega)
            have hw2 : IntKind.u64.wrap ((y : Int) * 1) = (z : Int) := by
              rw [show ((y : Int) * 1) = (z : Int) by rw [← hz]; push_cast; rfl]
              exact IntWalk.u64_in _ (by omega)
            have hacc := HA.out
            have hor : bits .or .u64 (acc : Int) (z : Int) = (acc : Int) + (z : Int) := by
              have h1 := (bits_nat .u64 64 (by decide) (fun n h h' => IntWalk.u64_in n (by simp at h'; omega)) acc z HACC64.out hzd).2
              rw [← hz, or_up hacc, hz] at h1
              rw [h1]; push_cast; rfl
            have hzy : (y : Int) = (z : Int) := by rw [← hz, Nat.mul_zero, Nat.pow_zero, Nat.mul_one]
            rw [← hzy] at hor
            rw [hzy] at hor
            have hor2 : bits .or .u64 (acc : Int) (y : Int) = (acc : Int) + (z : Int) := by rw [hzy]; exact hor
            have HZY := Lib.hid hzy
            clear hzy
            have HYZ : Hid (x % 128 * 2 ^ (7 * 0) = z) := Lib.hid (by rw [hy, hz])
            have hy128 : y < 128 := by omega
            have hbi : ∀ (h : 0 < (⟨#[b]⟩ : ByteArray).size), (⟨#[b]⟩ : ByteArray)[0]'h = b := fun _ => rfl
            by_cases hl : x < 128
            · have l1 : decide ((x : Int) < 128) = true := by simp; omega
              have HNS : Hid (numF 0 0 ((bOf S).drop at0) = some (acc + z, 0 + 1)) := Lib.hid (by rw [HN.out, numF, HX.out, if_neg hgood, if_pos hl, HYZ.out])
              subst hx
              clear hgood hacc hzd hy hz
              go_wp2_with fail
              go_ret2
              refine ⟨?_, HB1.out⟩
              rw [HNS.out]
              exact ⟨by rw [show ((acc + z : Nat) : Int) = (acc : Int) + (z : Int) by push_cast; rfl]; rfl, by have := HR1.out; rwa [Nat.add_assoc] at this⟩
            · have l1 : decide ((x : Int) < 128) = false := by simp; omega
              have hi8 : 0 < 9 := by omega
              have HNS : Hid (numF 0 0 ((bOf S).drop at0) = numF (0 + 1) (acc + z) ((bOf S).drop (at0 + (0 + 1)))) := Lib.hid (by rw [HN.out, numF, HX.out, if_neg hgood, if_neg hl, HYZ.out])
              have HA2 : Hid (acc + z < 2 ^ (7 * (0 + 1))) := Lib.hid (by
                rw [show 7 * (0 + 1) = 7 * 0 + 7 by omega, Nat.pow_add, Nat.mul_comm (2 ^ (7 * 0)) (2 ^ 7)]
                have h2 := Nat.mul_le_mul_right (2 ^ (7 * 0)) (show y + 1 ≤ 128 by omega)
                rw [Nat.add_mul, Nat.one_mul, hz] at h2
                omega)
              subst hx
              clear hgood hacc hzd hy hz
              go_wp2_with fail
              go_roundw
              case rel => exact ⟨0 + 1, acc + z, by omega, by push_cast; rfl, by go_num, HA2, Lib.hid (by have := HR1.out; rwa [Nat.add_assoc] at this), HB1, HNS⟩
              case measure => simp [intOf] <;> omega

          · have f9 : ((i : Int) == 9) = false := by simp; omega
            have f0 : decide ((0 : Int) < i) = true := by simp; omega
            have f0n : decide (0 < i) = true := by simp; omega
            have fx : ((x : Int) == 0) = false := by simp; omega
            obtain ⟨y, hy⟩ : ∃ y, x % 128 = y := ⟨_, rfl⟩
            obtain ⟨z, hz⟩ : ∃ z, y * 2 ^ (7 * i) = z := ⟨_, rfl⟩
            have hzd : z < 18446744073709551616 := by
              have h1 : 2 ^ (7 * i) ≤ 2 ^ 56 := Nat.pow_le_pow_right (by omega) (by omega)
              have h2 : y * 2 ^ (7 * i) ≤ 127 * 2 ^ 56 := Nat.mul_le_mul (by omega) h1
              omega
            rw [hy] at ha
            have hw1 : IntKind.u64.wrap (y : Int) = (y : Int) := IntWalk.u64_in _ (by omega)
            have hw2 : IntKind.u64.wrap ((y : Int) * 2 ^ (7 * i)) = (z : Int) := by
              rw [show ((y : Int) * 2 ^ (7 * i)) = (z : Int) by rw [← hz]; push_cast; rfl]
              exact IntWalk.u64_in _ (by omega)
            have hacc := HA.out
            have hor : bits .or .u64 (acc : Int) (z : Int) = (acc : Int) + (z : Int) := by
              have h1 := (bits_nat .u64 64 (by decide) (fun n h h' => IntWalk.u64_in n (by simp at h'; omega)) acc z HACC64.out hzd).2
              rw [← hz, or_up hacc, hz] at h1
              rw [h1]; push_cast; rfl
            have HYZ : Hid (x % 128 * 2 ^ (7 * i) = z) := Lib.hid (by rw [hy, hz])
            have hy128 : y < 128 := by omega
            have hbi : ∀ (h : 0 < (⟨#[b]⟩ : ByteArray).size), (⟨#[b]⟩ : ByteArray)[0]'h = b := fun _ => rfl
            by_cases hl : x < 128
            · have l1 : decide ((x : Int) < 128) = true := by simp; omega
              have HNS : Hid (numF 0 0 ((bOf S).drop at0) = some (acc + z, i + 1)) := Lib.hid (by rw [HN.out, numF, HX.out, if_neg hgood, if_pos hl, HYZ.out])
              subst hx
              clear hgood hacc hzd hy hz
              go_wp2_with fail
              go_ret2
              refine ⟨?_, HB1.out⟩
              rw [HNS.out]
              exact ⟨by rw [show ((acc + z : Nat) : Int) = (acc : Int) + (z : Int) by push_cast; rfl]; rfl, by have := HR1.out; rwa [Nat.add_assoc] at this⟩
            · have l1 : decide ((x : Int) < 128) = false := by simp; omega
              have hi8 : i < 9 := by omega
              have HNS : Hid (numF 0 0 ((bOf S).drop at0) = numF (i + 1) (acc + z) ((bOf S).drop (at0 + (i + 1)))) := Lib.hid (by rw [HN.out, numF, HX.out, if_neg hgood, if_neg hl, HYZ.out])
              have HA2 : Hid (acc + z < 2 ^ (7 * (i + 1))) := Lib.hid (by
                rw [show 7 * (i + 1) = 7 * i + 7 by omega, Nat.pow_add, Nat.mul_comm (2 ^ (7 * i)) (2 ^ 7)]
                have h2 := Nat.mul_le_mul_right (2 ^ (7 * i)) (show y + 1 ≤ 128 by omega)
                rw [Nat.add_mul, Nat.one_mul, hz] at h2
                omega)
              subst hx
              clear hgood hacc hzd hy hz
              go_wp2_with fail
              go_roundw
              case rel => exact ⟨i + 1, acc + z, by omega, by push_cast; rfl, by go_num, HA2, Lib.hid (by have := HR1.out; rwa [Nat.add_assoc] at this), HB1, HNS⟩
              case measure => simp [intOf] <;> omega

    · have HNX := Lib.hid (next_no p (at0 + i) 1 S wr HR.out (by omega) (by omega))
      have HN0 : Hid (numF 0 0 ((bOf S).drop at0) = none) := Lib.hid (by rw [HN.out, List.drop_eq_nil_of_le (by rw [bOf_length]; omega)]; rfl)
      go_wp2_with fail
      go_at_call 174
      refine HNX.out.mono ?_
      rintro ev w1 ⟨rfl, b1⟩
      have HB1 := Lib.hid (HB.out.trans (but_of p b1))
      have HR1 := Lib.hid (HR.out.below b1)
      clear b1
      go_wp2_with fail
      go_ret2
      refine ⟨?_, HB1.out⟩
      rw [HN0.out]
      exact ⟨rfl, _, HR1.out⟩

end Go.Proofs.YtnpblpbcchminaaGreatDoor
/- codec.Reader: Var. Condition: the table reads as listed. -/
namespace Go.Proofs.YtnpblpbcchminaaGreatDoor
open Go.ChangeShapes Go.WideShapes Go.ChangeAt Go.RowKit
set_option linter.unusedVariables false
set_option maxRecDepth 100000 in
set_option maxHeartbeats 8000000 in
theorem rvar_some (p i v k : Nat) (S : ByteArray) (w : World) (h : ROk p w S i) (hn : numF 0 0 ((bOf S).drop i) = some (v, k)) :
    Calls Tryz.prog 110 #[.pointer (some ⟨p, 0, none⟩)] w fun ev w' => ev = .returned (.int .u64 v) ∧ ROk p w' S (i + k) ∧ But (· = p) w w' := by
  have HRE := Lib.hid (ready_ok p i S w h)
  have c1 : w.cell? ⟨p, 1, none⟩ = some (.int .i64 i) := (cell_of_row w p 1 _ 243 (0, 0) h.1).trans rfl
  have HNU : Hid (Calls Tryz.prog 173 #[.func (.func 174) #[.pointer (some ⟨p, 0, none⟩)] #[]] w fun ev w' => NumPost p S i ev w w') := Lib.hid (number_any p i S w h)
  have HNF := Lib.hid hn
  clear h hn
  go_enter Tryz.func110, Tryz.ntmps110
  go_wp2_with fail
  refine HRE.out.mono ?_
  rintro ev w1 ⟨rfl, rfl⟩
  go_wp2_with fail
  refine HNU.out.mono ?_
  rintro ev w2 hq
  unfold NumPost at hq
  rw [HNF.out] at hq
  obtain ⟨⟨rfl, h2⟩, b2⟩ := hq
  have H2 := Lib.hid (And.intro h2 b2)
  clear h2 b2
  go_wp2_with fail
  go_ret
  exact ⟨rfl, H2.out.1, H2.out.2⟩
set_option maxRecDepth 100000 in
set_option maxHeartbeats 8000000 in
theorem rvar_none (a : Nat → Addr) (B p i : Nat) (S : ByteArray) (w : World) (hE : Env B a w) (hpB : B ≤ p) (h : ROk p w S i) (hn : numF 0 0 ((bOf S).drop i) = none) :
    Calls Tryz.prog 110 #[.pointer (some ⟨p, 0, none⟩)] w fun ev w' => ev = .returned (.int .u64 0) ∧ RBad p w' S ∧ But (· = p) w w' := by
  have HRE := Lib.hid (ready_ok p i S w h)
  have c1 : w.cell? ⟨p, 1, none⟩ = some (.int .i64 i) := (cell_of_row w p 1 _ 243 (0, 0) h.1).trans rfl
  have HNU : Hid (Calls Tryz.prog 173 #[.func (.func 174) #[.pointer (some ⟨p, 0, none⟩)] #[]] w fun ev w' => NumPost p S i ev w w') := Lib.hid (number_any p i S w h)
  have HNF := Lib.hid hn
  have HE := Lib.hid hE
  have HBS := Lib.hid hE.laid.size
  clear h hn hE
  go_enter Tryz.func110, Tryz.ntmps110
  go_wp2_with fail
  refine HRE.out.mono ?_
  rintro ev w1 ⟨rfl, rfl⟩
  go_wp2_with fail
  refine HNU.out.mono ?_
  rintro ev w2 hq
  unfold NumPost at hq
  rw [HNF.out] at hq
  obtain ⟨⟨rfl, j, h2⟩, b2⟩ := hq
  have HBA := Lib.hid (bad_ok a B p j i S w2 (HE.out.below (b2.to_below HBS.out (fun k hk q => by omega))) h2)
  have B2 := Lib.hid b2
  clear h2 b2
  go_wp2_with fail
  refine HBA.out.mono ?_
  rintro ev w3 ⟨rfl, h3, b3⟩
  have H3 := Lib.hid (And.intro h3 (B2.out.trans b3))
  clear h3 b3
  go_wp2_with fail
  go_ret
  exact ⟨rfl, H3.out.1, H3.out.2⟩
set_option maxRecDepth 100000 in
set_option maxHeartbeats 8000000 in
theorem rvar_bad (p : Nat) (S : ByteArray) (w : World) (h : RBad p w S) :
    Calls Tryz.prog 110 #[.pointer (some ⟨p, 0, none⟩)] w fun ev w' => ev = .returned (.int .u64 0) ∧ w = w' := by
  have HRE := Lib.hid (ready_bad p S w h)
  clear h
  go_enter Tryz.func110, Tryz.ntmps110
  go_wp2_with fail
  refine HRE.out.mono ?_
  rintro ev w1 ⟨rfl, rfl⟩
  go_wp2_with fail
  go_ret
  exact ⟨rfl, rfl⟩
end Go.Proofs.YtnpblpbcchminaaGreatDoor
