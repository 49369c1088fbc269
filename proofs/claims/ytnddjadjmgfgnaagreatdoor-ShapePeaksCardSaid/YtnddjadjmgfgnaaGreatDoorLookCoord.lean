/- cartularylaw01.Book: lookCoord: lists and their longer twins that are marks answer true. No condition. -/
import Derived.Test.YtnddjadjmgfgnaaGreatDoorGrowCoord
namespace Go.Proofs.YtnddjadjmgfgnaaGreatDoor
open Go.ChangeShapes Go.WideShapes Go.ChangeAt Go.RowKit
set_option linter.unusedVariables false
theorem is_coord (num : Int) (w : World) (h0 : 0 ≤ num) (h1 : num ≤ 1000000) :
    Calls Tryz.prog 112 #[.agg #[.int .u8 201, .int .u64 num], .int .i64 num] w fun ev w' => ev = .returned (.bool true) ∧ Below w.heap.size w w' := by
  have hnn : (num == num) = true := by simp
  go_enter Tryz.func112, Tryz.ntmps112
  go_wp2
  refine bodyPost_ret (v := .bool true) (by simp [results, Tryz.results112, go_sem]) rfl ⟨rfl, ?_⟩
  repeat (first | exact Below.refl _ _ | (refine below_drewN ?_) | (refine Below.drew ?_) | (refine Below.alloc ?_ (by simp; try omega) _) | (refine Below.setCell ?_ (by simp; try omega) _))
set_option maxRecDepth 100000 in
set_option maxHeartbeats 4000000 in
theorem look_coord (K r m cap : Nat) (H : List Hold) (lg : Nat → Value) (w : World) (hm : H.length = m) (hm2 : m ≤ 1000000) (hc : w.cell? ⟨K, 6, none⟩ = some (.slice (some ⟨r, 0, none⟩) m cap)) (hrow : RowAt r H lg w)
    (hd : ∀ (t : Nat) (h : Hold), H[t]? = some h → OldCoord h w ∧ (∃ A c, h.v = .slice A h.n c) ∧ ∃ b, LongCoord h (lg t) (h.n + 70) b w) (hn : ∀ (t : Nat) (h : Hold), H[t]? = some h → h.n ≤ 1000000 ∧ 0 ≤ h.num ∧ h.num ≤ 1000000) :
    Calls Tryz.prog 66 #[.pointer (some ⟨K, 0, none⟩)] w fun ev w' => ev = .returned (.bool true) ∧ Below w.heap.size w w' := by
  have hK := block_of_cell hc
  have HN := Lib.hid hn
  have HM := Lib.hid hm
  have HD := Lib.hid hd
  have HR0 := Lib.hid hrow
  clear hn hm hd hrow
  go_enter Tryz.func66, Tryz.ntmps66
  go_wp2
  go_loopw [3] (fun i wr => ∃ k : Nat, k ≤ m ∧ i = .int .i64 k ∧ Hid (Below w.heap.size w wr)) (fun i _ => m - (intOf i).toNat)
  case atStart => exact ⟨0, by omega, rfl, Lib.hid (Below.refl _ _)⟩
  case round =>
    obtain ⟨k, hk, rfl, HB⟩ := hrel
    have hKc := cell_below HB.out hc hK
    have hKw := block_of_cell hKc
    have hsz := HB.out.size
    by_cases hlt : k < m
    · obtain ⟨x, hx⟩ : ∃ x, H[k]? = some x := ⟨_, List.getElem?_eq_getElem (by have := HM.out; omega)⟩
      obtain ⟨r0, r1, r2⟩ := HR0.out.cells k x hx
      obtain ⟨n1, n2, n3⟩ := HN.out k x hx
      obtain ⟨ho, ⟨A, xcap, hxv⟩, b, hlg⟩ := HD.out k x hx
      obtain ⟨xv, xn, num⟩ := x
      obtain ⟨⟨cap3, hl3⟩, hl4, hl5⟩ := hlg
      simp only at r0 r2 n1 n2 n3 hxv hl3 hl5
      subst hxv
      rw [hl3] at r1
      have HX := Lib.hid hx
      have HO := Lib.hid ho
      have HL5 := Lib.hid hl5
      have hrw := block_of_cell r0
      have r0 := cell_below HB.out r0 hrw
      have r1 := cell_below HB.out r1 hrw
      have r2 := cell_below HB.out r2 hrw
      have hrw := block_of_cell r0
      have i1 : (k : Int) < m := by omega
      clear hx ho hl5 hl3
      have hneq : ((xn : Int) + 70 != ((xn + 70 : Nat) : Int)) = false := by simp
      have hneq2 : (((xn + 70 : Nat) : Int) != (xn : Int) + 70) = false := by simp
      obtain ⟨wo, rfl⟩ : ∃ wo : World, wo = wr := ⟨_, rfl⟩
      go_wp2
      obtain ⟨W, hW⟩ : ∃ W, wo.alloc (.cells #[.slice A xn xcap, .slice (some ⟨b, 0, none⟩) (xn + 70) cap3, .int .i64 num] 93) = W := ⟨_, rfl⟩
      have hbW : Hid (Below w.heap.size w W) := Lib.hid (by rw [← hW]; exact HB.out.alloc hsz _)
      have b0 : W.cell? ⟨wo.heap.size, 0, none⟩ = some (.slice A xn xcap) := by rw [← hW]; exact cell_new _ _ 0 _ rfl
      have b1 : W.cell? ⟨wo.heap.size, 1, none⟩ = some (.slice (some ⟨b, 0, none⟩) (xn + 70) cap3) := by rw [← hW]; exact cell_new _ _ 1 _ rfl
      have b2 : W.cell? ⟨wo.heap.size, 2, none⟩ = some (.int .i64 num) := by rw [← hW]; exact cell_new _ _ 2 _ rfl
      have hWs := block_of_cell b0
      rw [hW]
      clear hW hneq hneq2
      go_loopw [5] (fun j wr => ∃ t : Nat, t ≤ xn + 70 ∧ j = .int .i64 t ∧ Hid (Below W.heap.size W wr)) (fun j _ => xn + 70 - (intOf j).toNat)
      case atStart => exact ⟨0, by omega, rfl, Lib.hid (Below.refl _ _)⟩
      case round =>
        obtain ⟨t, ht, rfl, HI⟩ := hrel
        have d0 := cell_below HI.out b0 hWs
        have d1 := cell_below HI.out b1 hWs
        have d2 := cell_below HI.out b2 hWs
        have ge := block_of_cell d0
        have hgrW := HI.out.size
        by_cases hlt2 : t < xn + 70
        · have c0 := HL5.out t 0 (.int .u8 201) hlt2 rfl
          have c1 := HL5.out t 1 (.int .u64 num) hlt2 rfl
          have hbb := block_of_cell c0
          have c0 := cell_below HI.out (cell_below hbW.out c0 hbb) (by have := hbW.out.size; omega)
          have c1 := cell_below HI.out (cell_below hbW.out c1 hbb) (by have := hbW.out.size; omega)
          have gb := block_of_cell c0
          simp only [Nat.add_zero] at c0
          have i2 : (t : Int) < xn + 70 := by omega
          by_cases hlt3 : t < xn
          · obtain ⟨g, rfl, hgc⟩ : ∃ g, A = some ⟨g, 0, none⟩ ∧ ∀ j o u, j < xn → (markCoord num)[o]? = some u → w.cell? ⟨g, j * 2 + o, none⟩ = some u := by
              rcases HO.out with q | ⟨g, ⟨c, q⟩, _, h⟩
              · simp only at q; omega
              · simp only at q; injection q with q1; exact ⟨g, q1, h⟩
            have e0 := hgc t 0 (.int .u8 201) hlt3 rfl
            have e1 := hgc t 1 (.int .u64 num) hlt3 rfl
            have hgb := block_of_cell e0
            have e0 := cell_below HI.out (cell_below hbW.out e0 hgb) (by have := hbW.out.size; omega)
            have e1 := cell_below HI.out (cell_below hbW.out e1 hgb) (by have := hbW.out.size; omega)
            have gg := block_of_cell e0
            simp only [Nat.add_zero] at e0
            have i3 : (t : Int) < xn := by omega
            clear hgc
            go_wp2_with fail
            go_region_held3 (fun w' => w'.cell? ⟨wo.heap.size, 0, none⟩ = some (.slice (some ⟨g, 0, none⟩) xn xcap) ∧ w'.cell? ⟨wo.heap.size, 1, none⟩ = some (.slice (some ⟨b, 0, none⟩) (xn + 70) cap3) ∧ w'.cell? ⟨wo.heap.size, 2, none⟩ = some (.int .i64 num) ∧ w'.cell? ⟨b, t * 2, none⟩ = some (.int .u8 201) ∧ w'.cell? ⟨b, t * 2 + 1, none⟩ = some (.int .u64 num) ∧ w'.cell? ⟨g, t * 2, none⟩ = some (.int .u8 201) ∧ w'.cell? ⟨g, t * 2 + 1, none⟩ = some (.int .u64 num))
              (first | exact ⟨d0, d1, d2, c0, c1, e0, e1⟩ | exact ⟨cell_below hq2 d0 ge, cell_below hq2 d1 ge, cell_below hq2 d2 ge, cell_below hq2 c0 gb, cell_below hq2 c1 gb, cell_below hq2 e0 gg, cell_below hq2 e1 gg⟩ | exact ⟨cell_below hq1 d0 ge, cell_below hq1 d1 ge, cell_below hq1 d2 ge, cell_below hq1 c0 gb, cell_below hq1 c1 gb, cell_below hq1 e0 gg, cell_below hq1 e1 gg⟩)
              (first | (go_at_call 112; refine (is_coord num _ n2 n3).mono ?_; rintro ev w1 ⟨rfl, bq⟩; (first | (have hq2 : Below wr.heap.size wr w1 := hq1.trans (bq.mono hq1.size)) | (have hq1 : Below wr.heap.size wr w1 := ((Below.refl _ wr).drew).trans bq))))
            all_goals
              have HB2 := Lib.hid (HI.out.trans (hq2.mono hgrW))
              go_wp2
              go_roundw
              case rel => exact ⟨t + 1, by omega, by go_num, HB2⟩
              case measure => simp [intOf]; omega
          · have hnl : decide ((t : Int) < xn) = false := by simp; omega
            have hnm : decide (t < xn) = false := by simp; omega
            clear hlt3
            go_wp2_with fail
            refine wp_region_held_drew (S := (fun w' => w'.cell? ⟨wo.heap.size, 0, none⟩ = some (.slice A xn xcap) ∧ w'.cell? ⟨wo.heap.size, 1, none⟩ = some (.slice (some ⟨b, 0, none⟩) (xn + 70) cap3) ∧ w'.cell? ⟨wo.heap.size, 2, none⟩ = some (.int .i64 num) ∧ w'.cell? ⟨b, t * 2, none⟩ = some (.int .u8 201) ∧ w'.cell? ⟨b, t * 2 + 1, none⟩ = some (.int .u64 num))) (by kernel_rfl) ⟨d0, d1, d2, c0, c1⟩ (fun hHeld => ?_)
            refine wpAnyH_take (i := 0) (v := ?v0) rfl (by kernel_rfl) (by kernel_rfl) (by kernel_rfl) (fun _ _ _ h => h) (Or.inl ⟨by rfl, ?hy0⟩) (by assumption) ?rest0
            case hy0 => (intro w hSw; (try dsimp only at hSw); go_simp; (try with_reducible rfl))
            simp only [Act.put, List.getElem_toArray, List.getElem_cons_zero, List.setIfInBounds_toArray, List.set_cons_zero, List.set_cons_succ]
            refine wpAnyH_take (i := 1) (v := ?v1) rfl (by kernel_rfl) (by kernel_rfl) (by kernel_rfl) (fun _ _ _ h => h) (Or.inl ⟨by rfl, ?hy1⟩) (by assumption) ?rest1
            case hy1 => (intro w hSw; (try dsimp only at hSw); go_simp; (try with_reducible rfl))
            simp only [Act.put, List.getElem_toArray, List.getElem_cons_zero, List.getElem_cons_succ, List.setIfInBounds_toArray, List.set_cons_zero, List.set_cons_succ]
            refine wpAnyH_take (i := 2) (v := ?v2) rfl (by kernel_rfl) (by kernel_rfl) (by kernel_rfl) (fun _ _ _ h => h) (Or.inl ⟨by rfl, ?hy2⟩) (by assumption) ?rest2
            case hy2 => (intro w hSw; (try dsimp only at hSw); go_simp; (try with_reducible rfl))
            simp only [Act.put, List.getElem_toArray, List.getElem_cons_zero, List.getElem_cons_succ, List.setIfInBounds_toArray, List.set_cons_zero, List.set_cons_succ]
            refine wpAnyH_take (i := 3) (v := ?v3) rfl (by kernel_rfl) (by kernel_rfl) (by kernel_rfl) (fun _ _ _ h => h) (Or.inl ⟨by rfl, ?hy3⟩) (by assumption) ?rest3
            case hy3 => (intro w hSw; (try dsimp only at hSw); go_simp; (try with_reducible rfl))
            simp only [Act.put, List.getElem_toArray, List.getElem_cons_zero, List.getElem_cons_succ, List.setIfInBounds_toArray, List.set_cons_zero, List.set_cons_succ]
            refine wpAnyH_take (i := 4) (v := ?v4) rfl (by kernel_rfl) (by kernel_rfl) (by kernel_rfl) (fun _ _ _ h => h) (Or.inl ⟨by rfl, ?hy4⟩) (by assumption) ?rest4
            case hy4 => (intro w hSw; (try dsimp only at hSw); go_simp; (try with_reducible rfl))
            simp only [Act.put, List.getElem_toArray, List.getElem_cons_zero, List.getElem_cons_succ, List.setIfInBounds_toArray, List.set_cons_zero, List.set_cons_succ]
            refine wpAnyH_take (i := 5) (v := ?v5) rfl (by kernel_rfl) (by kernel_rfl) (by kernel_rfl) (fun _ _ _ h => h) (Or.inl ⟨by rfl, ?hy5⟩) (by assumption) ?rest5
            case hy5 => (intro w hSw; (try dsimp only at hSw); go_simp; (try with_reducible rfl))
            simp only [Act.put, List.getElem_toArray, List.getElem_cons_zero, List.getElem_cons_succ, List.setIfInBounds_toArray, List.set_cons_zero, List.set_cons_succ]
            refine wpAnyH_take (i := 6) (v := ?v6) rfl (by kernel_rfl) (by kernel_rfl) (by kernel_rfl) (fun _ _ _ h => h) (Or.inl ⟨by rfl, ?hy6⟩) (by assumption) ?rest6
            case hy6 => (intro w hSw; (try dsimp only at hSw); go_simp; (try with_reducible rfl))
            simp only [Act.put, List.getElem_toArray, List.getElem_cons_zero, List.getElem_cons_succ, List.setIfInBounds_toArray, List.set_cons_zero, List.set_cons_succ]
            refine wpAnyH_ready (rs := [7]) (by kernel_rfl) (by simp) ?_
            refine AllReadyH.cons (i := 7) rfl (fun K2 hK2 => ?_) AllReadyH.nil
            go_simp
            go_at_call 112
            refine (is_coord num _ n2 n3).mono ?_
            rintro ev w1 ⟨rfl, bq⟩
            have hq1 : Below wr.heap.size wr w1 := ((Below.refl _ wr).drew).trans bq
            try go_wp2_with fail
            refine hK2.out _ _ ⟨cell_below hq1 d0 ge, cell_below hq1 d1 ge, cell_below hq1 d2 ge, cell_below hq1 c0 gb, cell_below hq1 c1 gb⟩ (fun hHeld2 => ?_)
            clear hK2 K2
            try simp only [Act.put, List.getElem_toArray, List.getElem_cons_zero, List.getElem_cons_succ, List.setIfInBounds_toArray, List.set_cons_zero, List.set_cons_succ]
            refine wpAnyH_take (i := 8) (v := ?v8) rfl (by kernel_rfl) (by kernel_rfl) (by kernel_rfl) (fun _ _ _ h => h) (Or.inl ⟨by rfl, ?hy8⟩) (by assumption) ?rest8
            case hy8 => (intro w hSw; (try dsimp only at hSw); go_simp; (try with_reducible rfl))
            simp only [Act.put, List.getElem_toArray, List.getElem_cons_zero, List.getElem_cons_succ, List.setIfInBounds_toArray, List.set_cons_zero, List.set_cons_succ]
            refine wpAnyH_take (i := 9) (v := ?v9) rfl (by kernel_rfl) (by kernel_rfl) (by kernel_rfl) (fun _ _ _ h => h) (Or.inl ⟨by rfl, ?hy9⟩) (by assumption) ?rest9
            case hy9 => (intro w hSw; (try dsimp only at hSw); go_simp; (try with_reducible rfl))
            simp only [Act.put, List.getElem_toArray, List.getElem_cons_zero, List.getElem_cons_succ, List.setIfInBounds_toArray, List.set_cons_zero, List.set_cons_succ]
            refine wpAnyH_take (i := 10) (v := ?v10) rfl (by kernel_rfl) (by kernel_rfl) (by kernel_rfl) (fun _ _ _ h => h) (Or.inl ⟨by rfl, ?hy10⟩) (by assumption) ?rest10
            case hy10 => (intro w hSw; (try dsimp only at hSw); go_simp; (try with_reducible rfl))
            simp only [Act.put, List.getElem_toArray, List.getElem_cons_zero, List.getElem_cons_succ, List.setIfInBounds_toArray, List.set_cons_zero, List.set_cons_succ]
            refine wpAnyH_take (i := 11) (v := ?v11) rfl (by kernel_rfl) (by kernel_rfl) (by kernel_rfl) (fun _ _ _ h => h) (Or.inl ⟨by rfl, ?hy11⟩) (by assumption) ?rest11
            case hy11 => (intro w hSw; (try dsimp only at hSw); go_simp; (try with_reducible rfl))
            simp only [Act.put, List.getElem_toArray, List.getElem_cons_zero, List.getElem_cons_succ, List.setIfInBounds_toArray, List.set_cons_zero, List.set_cons_succ]
            refine wpAnyH_take (i := 12) (v := ?v12) rfl (by kernel_rfl) (by kernel_rfl) (by kernel_rfl) (fun _ _ _ h => h) (Or.inl ⟨by rfl, ?hy12⟩) (by assumption) ?rest12
            case hy12 => (intro w hSw; (try dsimp only at hSw); go_simp; (try with_reducible rfl))
            simp only [Act.put, List.getElem_toArray, List.getElem_cons_zero, List.getElem_cons_succ, List.setIfInBounds_toArray, List.set_cons_zero, List.set_cons_succ]
            refine wpAnyH_take (i := 13) (v := ?v13) rfl (by kernel_rfl) (by kernel_rfl) (by kernel_rfl) (fun _ _ _ h => h) (Or.inl ⟨by rfl, ?hy13⟩) (by assumption) ?rest13
            case hy13 => (intro w hSw; (try dsimp only at hSw); go_simp; (try with_reducible rfl))
            simp only [Act.put, List.getElem_toArray, List.getElem_cons_zero, List.getElem_cons_succ, List.setIfInBounds_toArray, List.set_cons_zero, List.set_cons_succ]
            refine wpAnyH_take (i := 14) (v := ?v14) rfl (by kernel_rfl) (by kernel_rfl) (by kernel_rfl) (fun _ _ _ h => h) (Or.inl ⟨by rfl, ?hy14⟩) (by assumption) ?rest14
            case hy14 => (intro w hSw; (try dsimp only at hSw); go_simp; (try with_reducible rfl))
            simp only [Act.put, List.getElem_toArray, List.getElem_cons_zero, List.getElem_cons_succ, List.setIfInBounds_toArray, List.set_cons_zero, List.set_cons_succ]
            refine wpAnyH_take (i := 15) (v := ?v15) rfl (by kernel_rfl) (by kernel_rfl) (by kernel_rfl) (fun _ _ _ h => h) (Or.inl ⟨by rfl, ?hy15⟩) (by assumption) ?rest15
            case hy15 => (intro w hSw; (try dsimp only at hSw); go_simp; (try with_reducible rfl))
            simp only [Act.put, List.getElem_toArray, List.getElem_cons_zero, List.getElem_cons_succ, List.setIfInBounds_toArray, List.set_cons_zero, List.set_cons_succ]
            refine wpAnyH_take (i := 16) (v := undef) rfl (by kernel_rfl) (by kernel_rfl) (by kernel_rfl) (fun _ _ _ h => h) (Or.inr ⟨by rfl, rfl⟩) (by assumption) ?_
            simp only [Act.put, List.getElem_toArray, List.getElem_cons_zero, List.getElem_cons_succ, List.setIfInBounds_toArray, List.set_cons_zero, List.set_cons_succ]
            refine wpAnyH_take (i := 17) (v := undef) rfl (by kernel_rfl) (by kernel_rfl) (by kernel_rfl) (fun _ _ _ h => h) (Or.inr ⟨by rfl, rfl⟩) (by assumption) ?_
            simp only [Act.put, List.getElem_toArray, List.getElem_cons_zero, List.getElem_cons_succ, List.setIfInBounds_toArray, List.set_cons_zero, List.set_cons_succ]
            refine wpAnyH_take (i := 18) (v := undef) rfl (by kernel_rfl) (by kernel_rfl) (by kernel_rfl) (fun _ _ _ h => h) (Or.inr ⟨by rfl, rfl⟩) (by assumption) ?_
            simp only [Act.put, List.getElem_toArray, List.getElem_cons_zero, List.getElem_cons_succ, List.setIfInBounds_toArray, List.set_cons_zero, List.set_cons_succ]
            refine wpAnyH_take (i := 19) (v := undef) rfl (by kernel_rfl) (by kernel_rfl) (by kernel_rfl) (fun _ _ _ h => h) (Or.inr ⟨by rfl, rfl⟩) (by assumption) ?_
            simp only [Act.put, List.getElem_toArray, List.getElem_cons_zero, List.getElem_cons_succ, List.setIfInBounds_toArray, List.set_cons_zero, List.set_cons_succ]
            refine wpAnyH_take (i := 20) (v := undef) rfl (by kernel_rfl) (by kernel_rfl) (by kernel_rfl) (fun _ _ _ h => h) (Or.inr ⟨by rfl, rfl⟩) (by assumption) ?_
            simp only [Act.put, List.getElem_toArray, List.getElem_cons_zero, List.getElem_cons_succ, List.setIfInBounds_toArray, List.set_cons_zero, List.set_cons_succ]
            refine wpAnyH_take (i := 21) (v := undef) rfl (by kernel_rfl) (by kernel_rfl) (by kernel_rfl) (fun _ _ _ h => h) (Or.inr ⟨by rfl, rfl⟩) (by assumption) ?_
            simp only [Act.put, List.getElem_toArray, List.getElem_cons_zero, List.getElem_cons_succ, List.setIfInBounds_toArray, List.set_cons_zero, List.set_cons_succ]
            refine wpAnyH_take (i := 22) (v := undef) rfl (by kernel_rfl) (by kernel_rfl) (by kernel_rfl) (fun _ _ _ h => h) (Or.inr ⟨by rfl, rfl⟩) (by assumption) ?_
            simp only [Act.put, List.getElem_toArray, List.getElem_cons_zero, List.getElem_cons_succ, List.setIfInBounds_toArray, List.set_cons_zero, List.set_cons_succ]
            refine wpAnyH_take (i := 23) (v := undef) rfl (by kernel_rfl) (by kernel_rfl) (by kernel_rfl) (fun _ _ _ h => h) (Or.inr ⟨by rfl, rfl⟩) (by assumption) ?_
            simp only [Act.put, List.getElem_toArray, List.getElem_cons_zero, List.getElem_cons_succ, List.setIfInBounds_toArray, List.set_cons_zero, List.set_cons_succ]
            refine wpAnyH_take (i := 24) (v := undef) rfl (by kernel_rfl) (by kernel_rfl) (by kernel_rfl) (fun _ _ _ h => h) (Or.inr ⟨by rfl, rfl⟩) (by assumption) ?_
            simp only [Act.put, List.getElem_toArray, List.getElem_cons_zero, List.getElem_cons_succ, List.setIfInBounds_toArray, List.set_cons_zero, List.set_cons_succ]
            refine wpAnyH_take (i := 25) (v := ?v25) rfl (by kernel_rfl) (by kernel_rfl) (by kernel_rfl) (fun _ _ _ h => h) (Or.inl ⟨by rfl, ?hy25⟩) (by assumption) ?rest25
            case hy25 => (intro w hSw; (try dsimp only at hSw); go_simp; (try with_reducible rfl))
            simp only [Act.put, List.getElem_toArray, List.getElem_cons_zero, List.getElem_cons_succ, List.setIfInBounds_toArray, List.set_cons_zero, List.set_cons_succ]
            refine wpAnyH_take (i := 26) (v := ?v26) rfl (by kernel_rfl) (by kernel_rfl) (by kernel_rfl) (fun _ _ _ h => h) (Or.inl ⟨by rfl, ?hy26⟩) (by assumption) ?rest26
            case hy26 => (intro w hSw; (try dsimp only at hSw); go_simp; (try with_reducible rfl))
            simp only [Act.put, List.getElem_toArray, List.getElem_cons_zero, List.getElem_cons_succ, List.setIfInBounds_toArray, List.set_cons_zero, List.set_cons_succ]
            refine wpAnyH_done (by kernel_rfl) ?_ _
            all_goals
              have HB2 := Lib.hid (HI.out.trans (hq1.mono hgrW))
              go_wp2
              go_roundw
              case rel => exact ⟨t + 1, by omega, by go_num, HB2⟩
              case measure => simp [intOf]; omega
        · obtain rfl : t = xn + 70 := by omega
          have HB2 := Lib.hid (hbW.out.trans (HI.out.mono (hbW.out.size)))
          go_wp2
          go_roundw
          case rel => exact ⟨k + 1, by omega, by go_num, HB2⟩
          case measure => simp [intOf]; omega
    · obtain rfl : k = m := by omega
      go_wp2
      go_ret
      exact ⟨rfl, HB.out⟩
end Go.Proofs.YtnddjadjmgfgnaaGreatDoor
