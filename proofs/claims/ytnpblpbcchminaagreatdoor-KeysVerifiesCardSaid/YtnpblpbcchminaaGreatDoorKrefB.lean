/- cartularyref22.Digits, Recover. Condition: the table reads as listed. -/
import Derived.Test.YtnpblpbcchminaaGreatDoorSameHashes
import Derived.Test.YtnpblpbcchminaaGreatDoorMem
import Derived.Deep.AppendLies
import Derived.Test.YtnpblpbcchminaaGreatDoorKrefA
namespace Go.Proofs.YtnpblpbcchminaaGreatDoor
open Go.ChangeShapes Go.WideShapes Go.ChangeAt Go.RowKit
set_option linter.unusedVariables false

theorem info_i64 : (Tryz.prog.info? 3).map (fun i => (i.zero, i.size, i.bytes)) = some (some (.int .i64 0), 1, 8) := by kernel_rfl
def ivals (l : List Nat) : List Value := l.map fun (x : Nat) => .int .i64 (x : Int)
theorem ivals_app (l r : List Nat) : ivals (l ++ r) = ivals l ++ ivals r := by simp [ivals]
theorem nib_take {m : List UInt8} {i : Nat} {b : UInt8} (h : m[i]? = some b) : nibB (m.take (i + 1)) = nibB (m.take i) ++ [b.toNat / 16, b.toNat % 16] := by
  rw [List.take_add_one, h]
  simp [nibB]
set_option maxRecDepth 100000 in
set_option maxHeartbeats 8000000 in
theorem rdig_any (m : List UInt8) (w : World) (hm : m.length = 32) :
    Calls Tryz.prog 127 #[hv m] w fun ev w' => ∃ v, ev = .returned v ∧ w'.ownsRow w.heap.size 3 1 v 67 (ivals (digB m)) ∧ Below w.heap.size w w' := by
  obtain ⟨v0, ev0, Hv0, Zv0, Iv0, Ov0⟩ := row_of m hm
  obtain ⟨i0, hi, hz0, hz1, hz2⟩ := info_parts info_i64
  obtain ⟨wv, hwv⟩ : ∃ y9 : World, (w.alloc (.cells v0 23)) = y9 := ⟨_, rfl⟩
  have HBv : Hid (Below w.heap.size w wv) := Lib.hid (by rw [← hwv]; exact ((Below.refl _ _).alloc (by simp <;> omega) _))
  have HSV : Hid (wv.heap.size = w.heap.size + 1) := Lib.hid (by rw [← hwv]; simp)
  have RA : Hid (wv.heap[w.heap.size]? = some (.cells v0 23 (0, 0))) := Lib.hid (by rw [← hwv]; exact heap_at _ _ _ (by simp <;> omega))
  have HWV := Lib.hid hwv
  have hsv := HSV.out
  have HM := Lib.hid hm
  rw [ev0]
  clear ev0 hwv hm
  go_enter Tryz.func127, Tryz.ntmps127
  go_upto_region 1 with fail
  rw [HWV.out]
  go_wp2_with fail
  go_loopw [3, 5] (fun v k wr => ∃ (i : Nat), i ≤ 32 ∧ k = .int .i64 i ∧ Hid (wr.ownsRow wv.heap.size 3 1 v (2 * i) (ivals (nibB (m.take i)))) ∧ Hid (Below wv.heap.size wv wr)) (fun _ k _ => 32 - (intOf k).toNat)
  case atStart => exact ⟨0, Nat.zero_le _, rfl, Lib.hid (by simpa [ivals, nibB] using World.ownsRow_nil _ _ _ _), Lib.hid (Below.refl _ _)⟩
  case round =>
    obtain ⟨i, hi9, rfl, OWN, HB⟩ := hrel
    have hbs := HB.out.size
    by_cases hlt : i < 32
    · obtain ⟨b, hb⟩ : ∃ b, m[i]? = some b := ⟨_, List.getElem?_eq_getElem (by have := HM.out; omega)⟩
      have HNT := Lib.hid (nib_take hb)
      have HCE : Hid (∀ w', Below wv.heap.size wv w' → w'.cell? ⟨w.heap.size, i, none⟩ = some (.int .u8 (b.toNat : Int))) := Lib.hid (fun w' hw => by
        have := range_row m ((hw.block _ (by omega)).trans RA.out) Hv0.out i (byteV b) (bytesV_get hb)
        rwa [Nat.zero_add] at this)
      have z1 := HCE.out wr HB.out
      obtain ⟨X, hX⟩ : ∃ X, b.toNat = X := ⟨_, rfl⟩
      have hX9 : X < 256 := by rw [← hX]; exact b.toNat_lt
      rw [hX] at HNT HCE z1
      have k0 : (0 : Int) ≤ i := by omega
      have k1 : (i : Int) < 32 := by omega
      have own := OWN.out
      clear hb hX
      go_upto_region 7 with (at_builtin; refine wpList_append_lies _ rfl _ _ 43 rfl wv.heap.size 3 i0 (.int .i64 0) 1 8 Tryz.underlying43 hi hz0 hz1 hz2 rfl (by decide) u3 _ _ rfl (own.alloc _) ⟨wr.heap.size, 0, none⟩ 1 1 _ rfl rfl (news_new _ _) (by simp [Value.oneCell']) (by decide) (by unfold maxLen; omega) (by omega) (by simp; omega) _ rfl ?_; intro g4 cap4 w4 hown4 hgrow4 hat4 hlt4)
      have HB4 : Hid (Below wv.heap.size wv w4) := Lib.hid ((HB.out.alloc (by omega) _).grown hgrow4 (by simp; omega) (fun k hk => (own.lt k hk).1))
      have z2 := HCE.out w4 HB4.out
      have hb4 := HB4.out.size
      go_wp2_with (at_builtin; refine wpList_append_lies _ rfl _ _ 43 rfl wv.heap.size 3 i0 (.int .i64 0) 1 8 Tryz.underlying43 hi hz0 hz1 hz2 rfl (by decide) _ _ _ rfl (hown4.alloc _) ⟨w4.heap.size, 0, none⟩ 1 1 _ rfl rfl (news_new _ _) (by simp [Value.oneCell']) (by decide) (by unfold maxLen; omega) (by omega) (by simp; omega) _ rfl ?_; intro g5 cap5 w5 hown5 hgrow5 hat5 hlt5)
      have HB5 : Hid (Below wv.heap.size wv w5) := Lib.hid ((HB4.out.alloc (by omega) _).grown hgrow5 (by simp; omega) (fun k hk => (hown4.lt k hk).1))
      go_roundw
      case rel => exact ⟨i + 1, by omega, by go_num, Lib.hid (own_congr hown5 (by omega) (by rw [HNT.out, ivals_app]; simp [ivals])), HB5⟩
      case measure => simp [intOf]; omega
    · obtain rfl : i = 32 := by omega
      have own0 := OWN.out
      rw [List.take_of_length_le (by have := HM.out; omega), show 2 * 32 = 64 from rfl] at own0
      obtain ⟨L, hL⟩ : ∃ L, nibB m = L := ⟨_, rfl⟩
      have HLL : Hid (L.length = 64 ∧ (∀ x ∈ L, x ≤ 15) ∧ digB m = L ++ [lackB L / 256, lackB L / 16 % 16, lackB L % 16]) := Lib.hid ⟨by rw [← hL, nibB_length, HM.out], by rw [← hL]; exact nibB_le m, by rw [← hL]; rfl⟩
      rw [hL] at own0
      obtain ⟨g, cap, hv3, hg1, hg2⟩ := own0.form (by omega)
      subst hv3
      have HO := Lib.hid own0
      clear own0 OWN hL hlt hi9
      go_wp2_with fail
      go_loop [4, 6] (fun s k => ∃ (j t : Nat), j ≤ 64 ∧ s = .int .i64 t ∧ k = .int .i64 j ∧ Hid (t = lackB (L.take j)) ∧ t ≤ 15 * j) (fun _ k => 64 - (intOf k).toNat)
      case atStart => exact ⟨0, 0, Nat.zero_le _, rfl, rfl, Lib.hid (by simp [lackB]), by omega⟩
      case round =>
        obtain ⟨j, t, hj, rfl, rfl, HT, ht9⟩ := hrel
        by_cases hlt : j < 64
        · obtain ⟨x, hx⟩ : ∃ x, L[j]? = some x := ⟨_, List.getElem?_eq_getElem (by have := HLL.out.1; omega)⟩
          have hx15 : x ≤ 15 := HLL.out.2.1 x (List.mem_of_getElem? hx)
          have z1 : wr.cell? ⟨g, j, none⟩ = some (.int .i64 (x : Int)) := by rw [HO.out.cellAt j (by omega)]; simp [ivals, hx]
          have HTN : Hid (t + (15 - x) = lackB (L.take (j + 1))) := Lib.hid (by rw [List.take_add_one, hx, HT.out]; exact (lackB_snoc _ _).symm)
          have k0 : (0 : Int) ≤ j := by omega
          have k1 : (j : Int) < 64 := by omega
          have w1 : IntKind.i64.wrap ((t : Int) + 15) = (t : Int) + 15 := IntWalk.i64_in _ (by omega)
          have w2 : IntKind.i64.wrap ((t : Int) + 15 - x) = ((t + (15 - x) : Nat) : Int) := by rw [show (t : Int) + 15 - x = ((t + (15 - x) : Nat) : Int) by omega]; exact IntWalk.i64_in _ (by omega)
          clear hx
          go_wp2
          go_round
          case rel => exact ⟨j + 1, t + (15 - x), by omega, by first | rfl | (congr 1; omega), by go_num, HTN, by omega⟩
          case measure => simp [intOf]; omega
        · obtain rfl : j = 64 := by omega
          have HTL : Hid (t = lackB L) := Lib.hid (by rw [HT.out, List.take_of_length_le (by have := HLL.out.1; omega)])
          have own := HO.out
          clear hlt
          go_upto_region 13 with (at_builtin; refine wpList_append_lies _ rfl _ _ 43 rfl wv.heap.size 3 i0 (.int .i64 0) 1 8 Tryz.underlying43 hi hz0 hz1 hz2 rfl (by decide) _ _ _ rfl (own.alloc _) ⟨wr.heap.size, 0, none⟩ 1 1 _ rfl rfl (news_new _ _) (by simp [Value.oneCell']) (by decide) (by unfold maxLen; omega) (by omega) (by simp; omega) _ rfl ?_; intro g6 cap6 w6 hown6 hgrow6 hat6 hlt6)
          have HB6 : Hid (Below wv.heap.size wv w6) := Lib.hid ((HB.out.alloc (by omega) _).grown hgrow6 (by simp; omega) (fun k hk => (own.lt k hk).1))
          have hb6 := HB6.out.size
          go_upto_region 14 with (at_builtin; refine wpList_append_lies _ rfl _ _ 43 rfl wv.heap.size 3 i0 (.int .i64 0) 1 8 Tryz.underlying43 hi hz0 hz1 hz2 rfl (by decide) _ _ _ rfl (hown6.alloc _) ⟨w6.heap.size, 0, none⟩ 1 1 _ rfl rfl (news_new _ _) (by simp [Value.oneCell']) (by decide) (by unfold maxLen; omega) (by omega) (by simp; omega) _ rfl ?_; intro g7 cap7 w7 hown7 hgrow7 hat7 hlt7)
          have HB7 : Hid (Below wv.heap.size wv w7) := Lib.hid ((HB6.out.alloc (by omega) _).grown hgrow7 (by simp; omega) (fun k hk => (hown6.lt k hk).1))
          have hb7 := HB7.out.size
          go_wp2_with (at_builtin; refine wpList_append_lies _ rfl _ _ 43 rfl wv.heap.size 3 i0 (.int .i64 0) 1 8 Tryz.underlying43 hi hz0 hz1 hz2 rfl (by decide) _ _ _ rfl (hown7.alloc _) ⟨w7.heap.size, 0, none⟩ 1 1 _ rfl rfl (news_new _ _) (by simp [Value.oneCell']) (by decide) (by unfold maxLen; omega) (by omega) (by simp; omega) _ rfl ?_; intro g8 cap8 w8 hown8 hgrow8 hat8 hlt8)
          have HB8 : Hid (Below wv.heap.size wv w8) := Lib.hid ((HB7.out.alloc (by omega) _).grown hgrow8 (by simp; omega) (fun k hk => (hown7.lt k hk).1))
          go_ret
          exact ⟨_, rfl, own_mono (own_congr hown8 rfl (by rw [HLL.out.2.2, ivals_app, ← HTL.out]; simp [ivals])) (by omega), HBv.out.trans (HB8.out.mono HBv.out.size)⟩

set_option maxRecDepth 100000 in
set_option maxHeartbeats 8000000 in
theorem rrec_any (m : List UInt8) (A : Option Addr) (c : Nat) (C : List (List UInt8)) (w : World) (hm : m.length = 32) (hC : HIn w A 67 c C) :
    Calls Tryz.prog 39 #[hv m, .slice A 67 c] w fun ev w' => ev = .returned (.tuple #[hv (recB m C), faultV 0]) ∧ Below w.heap.size w w' := by
  obtain ⟨v0, ev0, Hv0, Zv0, Iv0, Ov0⟩ := row_of m hm
  obtain ⟨vr, evr, Hvr, Zvr, Ivr, Ovr⟩ := row_of (recB m C) (endB_length _)
  obtain ⟨vf, evf, HVF, Zvf, Ivf, Ovf⟩ := fault_of 0
  obtain ⟨i0, hi, hz0, hz1, hz2⟩ := info_parts info_hash
  obtain ⟨wv, hwv⟩ : ∃ y9 : World, (((w.alloc (.cells v0 23)).alloc (.cells #[.int .u8 0, .int .u8 0, .int .u8 0, .int .u8 0, .int .u8 0, .int .u8 0, .int .u8 0, .int .u8 0, .int .u8 0, .int .u8 0, .int .u8 0, .int .u8 0, .int .u8 0, .int .u8 0, .int .u8 0, .int .u8 0, .int .u8 0, .int .u8 0, .int .u8 0, .int .u8 0, .int .u8 0, .int .u8 0, .int .u8 0, .int .u8 0, .int .u8 0, .int .u8 0, .int .u8 0, .int .u8 0, .int .u8 0, .int .u8 0, .int .u8 0, .int .u8 0] 23)).alloc (.cells #[.int .i64 0, .int .i64 0] 34)) = y9 := ⟨_, rfl⟩
  have HBv : Hid (Below w.heap.size w wv) := Lib.hid (by rw [← hwv]; exact ((((Below.refl _ _).alloc (by simp <;> omega) _).alloc (by simp <;> omega) _).alloc (by simp <;> omega) _))
  have HSV : Hid (wv.heap.size = w.heap.size + 3) := Lib.hid (by rw [← hwv]; simp)
  have RA : Hid (wv.heap[w.heap.size]? = some (.cells v0 23 (0, 0))) := Lib.hid (by rw [← hwv]; exact ((((Below.refl (w.alloc (.cells v0 23)).heap.size (w.alloc (.cells v0 23))).alloc (Nat.le_refl _) _).alloc (by simp <;> omega) _).block w.heap.size (by simp <;> omega)).trans (heap_at _ _ _ (by simp <;> omega)))
  have RV : Hid (wv.heap[(w.heap.size + 1)]? = some (.cells #[.int .u8 0, .int .u8 0, .int .u8 0, .int .u8 0, .int .u8 0, .int .u8 0, .int .u8 0, .int .u8 0, .int .u8 0, .int .u8 0, .int .u8 0, .int .u8 0, .int .u8 0, .int .u8 0, .int .u8 0, .int .u8 0, .int .u8 0, .int .u8 0, .int .u8 0, .int .u8 0, .int .u8 0, .int .u8 0, .int .u8 0, .int .u8 0, .int .u8 0, .int .u8 0, .int .u8 0, .int .u8 0, .int .u8 0, .int .u8 0, .int .u8 0, .int .u8 0] 23 (0, 0))) := Lib.hid (by rw [← hwv]; exact (((Below.refl ((w.alloc (.cells v0 23)).alloc (.cells #[.int .u8 0, .int .u8 0, .int .u8 0, .int .u8 0, .int .u8 0, .int .u8 0, .int .u8 0, .int .u8 0, .int .u8 0, .int .u8 0, .int .u8 0, .int .u8 0, .int .u8 0, .int .u8 0, .int .u8 0, .int .u8 0, .int .u8 0, .int .u8 0, .int .u8 0, .int .u8 0, .int .u8 0, .int .u8 0, .int .u8 0, .int .u8 0, .int .u8 0, .int .u8 0, .int .u8 0, .int .u8 0, .int .u8 0, .int .u8 0, .int .u8 0, .int .u8 0] 23)).heap.size ((w.alloc (.cells v0 23)).alloc (.cells #[.int .u8 0, .int .u8 0, .int .u8 0, .int .u8 0, .int .u8 0, .int .u8 0, .int .u8 0, .int .u8 0, .int .u8 0, .int .u8 0, .int .u8 0, .int .u8 0, .int .u8 0, .int .u8 0, .int .u8 0, .int .u8 0, .int .u8 0, .int .u8 0, .int .u8 0, .int .u8 0, .int .u8 0, .int .u8 0, .int .u8 0, .int .u8 0, .int .u8 0, .int .u8 0, .int .u8 0, .int .u8 0, .int .u8 0, .int .u8 0, .int .u8 0, .int .u8 0] 23))).alloc (Nat.le_refl _) _).block (w.heap.size + 1) (by simp <;> omega)).trans (heap_at _ _ _ (by simp <;> omega)))
  have RF : Hid (wv.heap[(w.heap.size + 2)]? = some (.cells #[.int .i64 0, .int .i64 0] 34 (0, 0))) := Lib.hid (by rw [← hwv]; exact heap_at _ _ _ (by simp <;> omega))
  have HWV := Lib.hid hwv
  have hsv := HSV.out
  have HDG : Hid (Calls Tryz.prog 127 #[.agg v0] wv fun ev w' => ∃ v, ev = .returned v ∧ w'.ownsRow wv.heap.size 3 1 v 67 (ivals (digB m)) ∧ Below wv.heap.size wv w') := Lib.hid (by
    have := rdig_any m wv hm
    rw [ev0] at this; exact this)
  have hd67 := digB_length hm
  have HD15 : Hid (∀ i, i < 67 → (digB m).getD i 0 ≤ 15) := Lib.hid (fun i hi => by
    rw [List.getD_eq_getElem?_getD, List.getElem?_eq_getElem (by omega)]
    exact digB_le hm _ (List.getElem_mem _))
  obtain ⟨F, hF⟩ : ∃ F : Nat → List UInt8, (fun i => onH (15 - (digB m).getD i 0) (C.getD i [])) = F := ⟨_, rfl⟩
  have HF : Hid (∀ i, F i = onH (15 - (digB m).getD i 0) (C.getD i [])) := Lib.hid (fun i => by rw [← hF])
  have HRE : Hid (recB m C = endB ((List.range 67).map F)) := Lib.hid (by rw [← hF]; rfl)
  have HI := Lib.hid (hC.below HBv.out)
  have HF32 : Hid (∀ i, i < 67 → (F i).length = 32) := Lib.hid (fun i hi => by
    have hx : (C.getD i []).length = 32 := by
      rw [List.getD_eq_getElem?_getD, List.getElem?_eq_getElem (by have := hC.2.1; omega)]
      exact hC.1 _ (List.getElem_mem _)
    rw [HF.out]
    exact onH_length hx _)
  have HD67 := Lib.hid hd67
  have EVR := Lib.hid evr
  rw [ev0, evr, evf]
  clear ev0 evr evf hwv hm hC hd67 hF
  go_enter Tryz.func39, Tryz.ntmps39
  go_upto_region 1 with fail
  rw [HWV.out]
  go_wp2_with (refine wpList_load_row rfl 23 _ rfl w.heap.size rfl 23 v0 (0, 0) _ RA.out Tryz.underlying23 rfl Iv0.out ?_)
  refine HDG.out.mono ?_
  rintro ev w1 ⟨v, rfl, own, b1⟩
  obtain ⟨gd, capd, rfl, hg1, hg2⟩ := own.form (by omega)
  have HOD := Lib.hid own
  have B1 := Lib.hid b1
  have hs1 := b1.size
  clear own b1
  go_wp2_with fail
  go_loopw [7, 8] (fun v k wr => ∃ (i : Nat), i ≤ 67 ∧ k = .int .i64 i ∧ Hid (wr.ownsRow w1.heap.size 23 32 v i (hashCells ((List.range i).map F))) ∧ Hid (Below w1.heap.size w1 wr)) (fun _ k _ => 67 - (intOf k).toNat)
  case atStart => exact ⟨0, Nat.zero_le _, rfl, Lib.hid (World.ownsRow_nil _ _ _ _), Lib.hid (Below.refl _ _)⟩
  case round =>
    obtain ⟨i, hi9, rfl, OWN, HB⟩ := hrel
    have hsr := HB.out.size
    have HLT := Lib.hid (fun k q => (OWN.out.lt k q).1)
    have HBW : Hid (Below wv.heap.size wv wr) := Lib.hid (B1.out.trans (HB.out.mono (by omega)))
    by_cases hlt : i < 67
    · obtain ⟨q, hq⟩ : ∃ q, C[i]? = some q := ⟨_, List.getElem?_eq_getElem (by have := HI.out.2.1; omega)⟩
      obtain ⟨g, o, rfl, gl, rp, pl⟩ := HI.out.row hq
      obtain ⟨lp, hlp⟩ : ∃ y, bytesV q = y := ⟨_, rfl⟩
      have Ilp : Hid ((Tryz.prog.info? 23).map (·.size) = some lp.length) := Lib.hid (by rw [← hlp, bytesV_length, pl]; kernel_rfl)
      have KP : Hid (∀ w', But (fun k => u7.ownBlock = some k) wr w' → w'.rangeAt g (o + i * 32) lp) := Lib.hid (fun w' hw => by
        rw [← hlp]
        exact rangeAt_below (HBW.out.trans (But.to_below hw (by omega) (fun k hk q => by have := HLT.out k q; omega))) rp gl)
      obtain ⟨d, hd⟩ : ∃ d, (digB m).getD i 0 = d := ⟨_, rfl⟩
      have hd15 : d ≤ 15 := by rw [← hd]; exact HD15.out i hlt
      have hdc : w1.cell? ⟨gd, i, none⟩ = some (.int .i64 (d : Int)) := by
        rw [HOD.out.cellAt i (by omega), ← hd]
        simp [ivals, List.getD_eq_getElem?_getD, List.getElem?_eq_getElem (show i < (digB m).length by have := HD67.out; omega)]
      have KD : Hid (∀ w', But (fun k => u7.ownBlock = some k) wr w' → w'.cell? ⟨gd, i, none⟩ = some (.int .i64 (d : Int))) := Lib.hid (fun w' hw => cell_below (HB.out.trans (But.to_below hw (by omega) (fun k hk q => by have := HLT.out k q; omega))) hdc hg2)
      obtain ⟨vn, evn, Hvn, Zvn, Ivn, Ovn⟩ := row_of (F i) (HF32.out i hlt)
      have HON : Hid (∀ w', Calls Tryz.prog 128 #[.agg lp.toArray, .int .i64 ((15 - d : Nat) : Int)] w' fun ev w2 => ev = .returned (.agg vn) ∧ Below w'.heap.size w' w2) := Lib.hid (fun w' => by
        have := ron_any q (15 - d) w' pl (by omega)
        have e : F i = onH (15 - d) q := by rw [HF.out, hd, List.getD_eq_getElem?_getD, hq]; rfl
        rw [← e, evn, show hv q = .agg lp.toArray by rw [hv, hlp]] at this
        exact this)
      have HSN : Hid (∀ (w' : World) (v9 : Value), w'.ownsRow w1.heap.size 23 32 v9 (i + 1) (hashCells ((List.range i).map F) ++ hashCells [F i]) → Hid (w'.ownsRow w1.heap.size 23 32 v9 (i + 1) (hashCells ((List.range (i + 1)).map F)))) := Lib.hid (fun w' v9 h => Lib.hid (by
        rw [List.range_succ, List.map_append]
        rw [← hashCells_append] at h
        exact h))
      have k0 : (0 : Int) ≤ i := by omega
      have k1 : (i : Int) < 67 := by omega
      have w9 : IntKind.i64.wrap ((15 : Int) - d) = ((15 - d : Nat) : Int) := by rw [show (15 : Int) - d = ((15 - d : Nat) : Int) by omega]; exact IntWalk.i64_in _ (by omega)
      clear evn hlp rp hq hd hdc
      go_upto_region 8 with fail
      refine wp_region_held_drew (S := But (fun k => u7.ownBlock = some k) wr) (by kernel_rfl) (But.refl _ _).drew (fun hHeld => ?_)
      refine tk (i := 0) (v := ?v1) rfl ?y1 ?r1
      case y1 => (intro w hSw; (try dsimp only at hSw); go_simp; (try with_reducible rfl))
      try simp only [pu]
      refine tk (i := 1) (v := ?v2) rfl ?y2 ?r2
      case y2 => (intro w hSw; (try dsimp only at hSw); go_simp; (try with_reducible rfl))
      try simp only [pu]
      refine tk (i := 2) (v := ?v3) rfl ?y3 ?r3
      case y3 => (intro w hSw; (try dsimp only at hSw); go_simp; (try with_reducible rfl))
      try simp only [pu]
      refine tk (i := 3) (v := ?v4) rfl ?y4 ?r4
      case y4 => (intro w hSw; (try dsimp only at hSw); go_simp; (try with_reducible rfl))
      try simp only [pu]
      refine tw (i := 4) rfl (yieldsIf_load_mid (by rfl) 23 _ (by rfl) g (o + i * 32) (by rfl) lp _ (fun w h => KP.out w h) Tryz.underlying23 (by rfl) Ilp.out) ?_
      try simp only [pu]
      refine tk (i := 5) (v := ?v6) rfl ?y6 ?r6
      case y6 => (intro w hSw; (try dsimp only at hSw); go_simp; (try with_reducible rfl))
      try simp only [pu]
      refine tk (i := 6) (v := ?v7) rfl ?y7 ?r7
      case y7 => (intro w hSw; (try dsimp only at hSw); go_simp; (try with_reducible rfl))
      try simp only [pu]
      refine tk (i := 7) (v := ?v8) rfl ?y8 ?r8
      case y8 => (intro w hSw; (try dsimp only at hSw); go_simp; (try with_reducible rfl))
      try simp only [pu]
      refine tk (i := 8) (v := ?v9) rfl ?y9 ?r9
      case y9 => (intro w hSw; (try dsimp only at hSw); have z8 := KD.out w hSw; go_simp; (try with_reducible rfl))
      try simp only [pu]
      refine tk (i := 9) (v := ?v10) rfl ?y10 ?r10
      case y10 => (intro w hSw; (try dsimp only at hSw); go_simp; (try with_reducible rfl))
      try simp only [pu]
      refine wpAnyH_ready (rs := [10]) (by kernel_rfl) (by simp) ?_
      refine AllReadyH.cons (i := 10) rfl (fun K2 hK2 => ?_) AllReadyH.nil
      go_simp
      go_at_call 128
      refine (HON.out wr.drew).mono ?_
      rintro ev w701 ⟨rfl, bw701⟩
      try go_wp2_with fail
      obtain ⟨Kw701, fw701⟩ := st_call ((But.refl (fun k => u7.ownBlock = some k) wr).drew) bw701
      have Kw701 := Lib.hid Kw701
      have Ow701 := Lib.hid (own_keep fw701 (own_drew OWN.out))
      clear bw701 fw701
      refine hK2.out _ _ Kw701.out (fun hHeld2 => ?_)
      clear hK2 K2
      try simp only [pu]
      refine wpAnyH_ready (rs := [11]) (by kernel_rfl) (by simp) ?_
      refine AllReadyH.cons (i := 11) rfl (fun K2 hK2 => ?_) AllReadyH.nil
      rw [if_pos (by rfl)]
      refine wp_buildSlice_row 24 23 _ vn _ 32 rfl rfl Tryz.underlying24 Tryz.sizeOf23 Tryz.zeroValue23 rfl Zvn.out (by omega) (by omega) ?_
      obtain ⟨w702, hw702⟩ : ∃ x, (w701.alloc (.cells vn 23)) = x := ⟨_, rfl⟩
      obtain ⟨g702, hg702⟩ : ∃ x, w701.heap.size = x := ⟨_, rfl⟩
      obtain ⟨Kw702, Tw702_0, qw702, fw702⟩ := st_alloc Kw701.out hw702 hg702
      rw [hw702, hg702]; clear hw702 hg702
      have Kw702 := Lib.hid Kw702
      have Tw702_0 := Lib.hid Tw702_0
      have Ow702 := Lib.hid (own_keep (fun k x h => (fw702 k x h).1) Ow701.out)
      clear fw702
      refine hK2.out _ _ Kw702.out (fun hHeld2 => ?_)
      clear hK2 K2
      try simp only [pu]
      refine wpAnyH_ready (rs := [12]) (by kernel_rfl) (by simp) ?_
      refine AllReadyH.cons (i := 12) rfl (fun K2 hK2 => ?_) AllReadyH.nil
      rw [if_pos (by rfl)]
      refine wp_append_list _ _ 24 rfl w1.heap.size _ 23 i0 _ 32 32 Tryz.underlying24 hi hz0 hz1 hz2 rfl (by decide) u7 (.slice (some ⟨g702, 0, none⟩) 1 1) i 1 (hashCells ((List.range i).map F)) (hashCells [(F i)]) rfl rfl Ow702.out (own_at (F i) Tw702_0.out Hvn.out Zvn.out) (hashCells_cell _) (by unfold maxLen; omega) (by omega) (by have := (Kw702.out).size; omega) ?_
      intro v9 w703 o9 g9 a9
      obtain ⟨A9, C9, rfl, hC9⟩ := own_shape o9
      obtain ⟨Kw703, fw703⟩ := st_grow Kw702.out g9 (fun k q => q)
      have Kw703 := Lib.hid Kw703
      have Ow703 := Lib.hid o9
      clear fw703 o9 g9 a9
      refine hK2.out _ _ Kw703.out (fun hHeld2 => ?_)
      clear hK2 K2
      try simp only [pu]
      refine tk (i := 13) (v := ?v11) rfl ?y11 ?r11
      case y11 => (intro w hSw; (try dsimp only at hSw); go_simp; (try with_reducible rfl))
      try simp only [pu]
      refine wpAnyH_done (by kernel_rfl) ?_ _
      have KE := Lib.hid Kw703.out
      have OE := Lib.hid Ow703.out
      go_wp2
      go_roundw
      case rel => exact ⟨i + 1, by omega, by go_num, HSN.out _ _ OE.out, Lib.hid (HB.out.trans (But.to_below KE.out (by omega) (fun k hk q => by have := HLT.out k q; omega)))⟩
      case measure => simp [intOf]; omega
    · obtain rfl : i = 67 := by omega
      obtain ⟨A9, c9, hA, hL⟩ := hin_own (n := 67) (l := (List.range 67).map F) (fun z hz => by
        obtain ⟨k, hk, rfl⟩ := List.mem_map.1 hz
        exact HF32.out k (List.mem_range.1 hk)) (by simp) OWN.out
      subst hA
      have HCL : Hid (Calls Tryz.prog 129 #[.slice A9 67 c9] wr fun ev w' => ev = .returned (.agg vr) ∧ Below wr.heap.size wr w') := Lib.hid (by
        have := rclose_any _ A9 67 c9 wr hL (by omega)
        rw [← HRE.out, EVR.out] at this; exact this)
      clear hL
      go_wp2_with fail
      refine HCL.out.mono ?_
      rintro ev w2 ⟨rfl, b2⟩
      have B2 := Lib.hid (HBW.out.trans (b2.mono HBW.out.size))
      have R91 := Lib.hid ((B2.out.block _ (by omega)).trans RV.out)
      have R101 := Lib.hid ((B2.out.block _ (by omega)).trans RF.out)
      have HF1 := Lib.hid (HBv.out.trans (B2.out.mono HBv.out.size))
      clear b2
      go_wp2_with (first
        | (refine wpList_store_row rfl 23 _ _ rfl (w.heap.size + 1) vr rfl rfl 23 _ R91.out Ivr.out (by rw [Zvr.out]; rfl) Ovr.out ?_)
        | (refine wpList_store_row rfl 34 _ _ rfl (w.heap.size + 1 + 1) vf rfl (by rw [HVF.out]; rfl) 34 _ ((setRow_other _ _ _ _ (by omega)).trans R101.out) Ivf.out (by rw [Zvf.out]; rfl) Ovf.out ?_))
      refine bodyPost_ret (v := .tuple #[.agg vr, .agg vf]) (results_row_row rfl _ _ (w.heap.size + 1) (w.heap.size + 1 + 1) 23 34 vr vf (0, 0) (0, 0) _ _ rfl ((setRow_other _ _ _ _ (by omega)).trans (setRow_heap _ _ _ _ _ _ R91.out)) rfl (setRow_heap _ _ _ _ _ _ ((setRow_other _ _ _ _ (by omega)).trans R101.out)) Tryz.underlying23 rfl Ivr.out Tryz.underlying34 rfl Ivf.out) rfl ⟨rfl, below_setRow (below_setRow HF1.out _ _ (by omega)) _ _ (by omega)⟩

end Go.Proofs.YtnpblpbcchminaaGreatDoor
