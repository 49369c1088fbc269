import Derived.Test.YtnpblpbcchminaaGreatDoorKbShaPlain
import Derived.Deep.RegionHeld3
import Derived.Deep.DrawnRows
import Derived.BigRegion
/- sha.block. -/
namespace Go.Proofs.YtnpblpbcchminaaGreatDoor
open Go.ChangeShapes Go.WideShapes Go.ChangeAt Go.RowKit
set_option linter.unusedVariables false
set_option maxRecDepth 100000 in
set_option maxHeartbeats 4000000 in
theorem block_any (hb g o n cap : Nat) (H : List Int) (xs0 : List UInt8) (w : World) (hH : IRow w hb .u32 272 H) (hH8 : H.length = 8) (hx : w.rangeAt g o (bytesV xs0)) (hl : xs0.length = 64) (hn : 64 ≤ n) (hnc : n ≤ cap) (hcm : cap ≤ 9223372036854775807) (hK : KTab 17 w) :
    Calls Tryz.prog 208 #[.pointer (some ⟨hb, 0, none⟩), .slice (some ⟨g, o, none⟩) n cap] w fun ev w' => ev = .returned (.tuple #[]) ∧ IRow w' hb .u32 272 (blkL H xs0) ∧ But (· = hb) w w' := by
  have HX := Lib.hid hx
  have HL := Lib.hid hl
  have HH := Lib.hid hH
  have HH8 := Lib.hid hH8
  have HK := Lib.hid hK
  clear hx hl hH hH8 hK
  go_enter Tryz.func208, Tryz.ntmps208
  go_wp2
  obtain ⟨w0, hw0⟩ : ∃ w0, w.alloc (.cells (List.replicate 64 (Value.int .u32 0)).toArray 270) = w0 := ⟨_, rfl⟩
  have HR0 : Hid (IRow w0 w.heap.size .u32 270 (wrow xs0 0)) := Lib.hid (by rw [← hw0, wrow_zero]; exact irow_new _ _ _ _ (by simp))
  have HB0 : Hid (But (· = w.heap.size) w0 w0) := Lib.hid (But.refl _ _)
  have hw0' : w.alloc (.cells _ 270) = w0 := hw0
  simp only [List.replicate, List.toArray] at hw0
  rw [hw0]
  clear hw0'
  obtain ⟨Bw, hBw⟩ : ∃ Bw, w.heap.size = Bw := ⟨_, rfl⟩
  have HW0 := Lib.hid hw0
  have HBW := Lib.hid hBw
  rw [hBw] at HR0 HB0 ⊢
  clear hw0 hBw
  have HBy : Hid (∀ wr, But (· = Bw) w0 wr → ∀ i, i < 64 → wr.cell? ⟨g, o + i, none⟩ = some (.int .u8 (bAt xs0 i))) := Lib.hid (fun wr hb i hi => by
    have h1 := HX.out i _ (bAt_cell (by rw [HL.out]; exact hi))
    have h2 := block_of_cell h1
    refine hb.cell (by rw [← HW0.out]; exact cell_alloc h1 _) ?_
    have := HBW.out
    show ¬ g = Bw
    omega)
  have HHr : Hid (∀ wr, But (· = Bw) w0 wr → IRow wr hb .u32 272 H) := Lib.hid (fun wr h => by
    have h1 := HH.out.lt
    have := HBW.out
    have h2 : IRow w0 hb .u32 272 H := by rw [← HW0.out]; exact HH.out.alloc _
    exact h2.block (h.same hb h2.lt (by show ¬ hb = Bw; omega)))
  have HKw : Hid (∀ wr, But (· = Bw) w0 wr → KTab 17 wr) := Lib.hid (fun wr h => by
    have h1 := HK.out.lt
    have := HBW.out
    have h2 : KTab 17 w0 := by rw [← HW0.out]; exact fun t ht => cell_alloc (HK.out t ht) _
    exact h2.but h (by show ¬ _ = Bw; omega))
  have hgB : ¬ g = Bw := by
    have h1 := HX.out 0 _ (bAt_cell (xs := xs0) (i := 0) (by rw [HL.out]; omega))
    have h2 := block_of_cell h1
    have := HBW.out
    omega
  have hBg : ¬ Bw = g := fun e => hgB e.symm
  go_loopw [22] (fun c wr => ∃ k : Nat, k ≤ 16 ∧ c = .int .i64 k ∧ Hid (IRow wr Bw .u32 270 (wrow xs0 k)) ∧ Hid (But (· = Bw) w0 wr)) (fun c _ => 16 - (intOf c).toNat)
  case atStart => exact ⟨0, by omega, rfl, HR0, HB0⟩
  case round =>
    obtain ⟨k, hk, rfl, HR, HB⟩ := hrel
    by_cases hlt : k < 16
    · 
      have i1 : (k : Int) < 16 := by omega
      have c0 : wr.cell? ⟨g, o + 4 * k, none⟩ = some (.int .u8 (bAt xs0 (4 * k))) := HBy.out wr HB.out (4 * k) (by omega)
      have c1 : wr.cell? ⟨g, o + (4 * k + 1), none⟩ = some (.int .u8 (bAt xs0 (4 * k + 1))) := HBy.out wr HB.out (4 * k + 1) (by omega)
      have c2 : wr.cell? ⟨g, o + (4 * k + 2), none⟩ = some (.int .u8 (bAt xs0 (4 * k + 2))) := HBy.out wr HB.out (4 * k + 2) (by omega)
      have c3 : wr.cell? ⟨g, o + (4 * k + 3), none⟩ = some (.int .u8 (bAt xs0 (4 * k + 3))) := HBy.out wr HB.out (4 * k + 3) (by omega)
      obtain ⟨x0, hx0⟩ : ∃ x, bAt xs0 (4 * k) = x := ⟨_, rfl⟩
      obtain ⟨x1, hx1⟩ : ∃ x, bAt xs0 (4 * k + 1) = x := ⟨_, rfl⟩
      obtain ⟨x2, hx2⟩ : ∃ x, bAt xs0 (4 * k + 2) = x := ⟨_, rfl⟩
      obtain ⟨x3, hx3⟩ : ∃ x, bAt xs0 (4 * k + 3) = x := ⟨_, rfl⟩
      have y0 := bAt_bd xs0 (4 * k)
      have y1 := bAt_bd xs0 (4 * k + 1)
      have y2 := bAt_bd xs0 (4 * k + 2)
      have y3 := bAt_bd xs0 (4 * k + 3)
      rw [hx0] at c0 y0
      rw [hx1] at c1 y1
      rw [hx2] at c2 y2
      rw [hx3] at c3 y3
      have HXX : Hid (wordB xs0 k = bits .or .u32 (bits .or .u32 (bits .or .u32 (x0 * 16777216) (x1 * 65536)) (x2 * 256)) x3) := Lib.hid (by unfold wordB; rw [hx0, hx1, hx2, hx3])
      clear hx0 hx1 hx2 hx3
      have s0 : wr.cell? ⟨Bw, k, none⟩ = some (.int .u32 0) := HR.out.cell (by unfold wrow; rw [List.getElem?_append_right (by rw [wds_length]; exact Nat.le_refl _), wds_length, Nat.sub_self, List.getElem?_replicate, if_pos (by omega)])
      have s1 := HR.out.frozen k
      have i2 : (0 : Int) ≤ 4 * ↑k := by omega
      have i3 : (4 : Int) * ↑k + 3 < ↑n := by omega
      have e1 : (4 * (k : Int)).toNat = 4 * k := by omega
      have e2 : (4 * (k : Int) + 1).toNat = 4 * k + 1 := by omega
      have e3 : (4 * (k : Int) + 2).toNat = 4 * k + 2 := by omega
      have e4 : (4 * (k : Int) + 3).toNat = 4 * k + 3 := by omega
      have v0 : IntKind.i64.wrap (4 * (k : Int)) = 4 * ↑k := IntWalk.i64_in _ (by omega)
      have v1 : IntKind.i64.wrap (4 * (k : Int) + 1) = 4 * ↑k + 1 := IntWalk.i64_in _ (by omega)
      have v2 : IntKind.i64.wrap (4 * (k : Int) + 2) = 4 * ↑k + 2 := IntWalk.i64_in _ (by omega)
      have v3 : IntKind.i64.wrap (4 * (k : Int) + 3) = 4 * ↑k + 3 := IntWalk.i64_in _ (by omega)
      have z1 : (0 : Int) ≤ 4 * ↑k + 1 := by omega
      have z2 : (0 : Int) ≤ 4 * ↑k + 2 := by omega
      have z3 : (0 : Int) ≤ 4 * ↑k + 3 := by omega
      have k0 : (0 : Int) ≤ ↑k := by omega
      have k64 : (k : Int) < 64 := by omega
      have q0 : (4 : Int) * ↑k < ↑n := by omega
      have q1 : (4 : Int) * ↑k + 1 < ↑n := by omega
      have q2 : (4 : Int) * ↑k + 2 < ↑n := by omega
      go_wp2
      go_region_held3 (fun w' => w'.cell? ⟨g, o + 4 * k, none⟩ = some (.int .u8 x0) ∧ w'.cell? ⟨g, o + (4 * k + 1), none⟩ = some (.int .u8 x1) ∧ w'.cell? ⟨g, o + (4 * k + 2), none⟩ = some (.int .u8 x2) ∧ w'.cell? ⟨g, o + (4 * k + 3), none⟩ = some (.int .u8 x3)) (go_keep) (fail)
      clear v0 v1 v2 v3 e1 e2 e3 e4
      go_wp2
      go_roundw
      case rel => exact ⟨k + 1, by omega, by go_num, Lib.hid ((HR.out.set k _).congr (wrow_set xs0 k _ (by omega) (by rw [wds_lo hlt, HXX.out]))), Lib.hid ((HB.out.setCell Bw k _ (fun _ => rfl)).drew)⟩
      case measure => simp [intOf]; omega

    · rw [show (k : Int) = 16 by omega]
      obtain rfl : k = 16 := by omega
      have HR := Lib.hid HR.out
      have HB := Lib.hid HB.out
      obtain ⟨wa, rfl⟩ : ∃ wa : World, wa = wr := ⟨_, rfl⟩
      go_wp2
      go_loopw [6] (fun c wr => ∃ k : Nat, 16 ≤ k ∧ k ≤ 64 ∧ c = .int .i64 k ∧ Hid (IRow wr Bw .u32 270 (wrow xs0 k)) ∧ Hid (But (· = Bw) w0 wr)) (fun c _ => 64 - (intOf c).toNat)
      case atStart => exact ⟨16, by omega, by omega, rfl, HR, HB⟩
      case round =>
        obtain ⟨k, hk16, hk, rfl, HR, HB⟩ := hrel
        by_cases hlt : k < 64
        · 
          have i1 : (k : Int) < 64 := by omega
          have i16 : (16 : Int) ≤ k := by omega
          have i2 : (2 : Int) ≤ k := by omega
          have i7 : (7 : Int) ≤ k := by omega
          have i15 : (15 : Int) ≤ k := by omega
          have n7 : ¬ k = k - 7 := by omega
          have n16 : ¬ k = k - 16 := by omega
          have n7' : ¬ k - 7 = k := by omega
          have n16' : ¬ k - 16 = k := by omega
          have v2 : IntKind.i64.wrap ((k : Int) - 2) = ↑k - 2 := IntWalk.i64_in _ (by omega)
          have v7 : IntKind.i64.wrap ((k : Int) - 7) = ↑k - 7 := IntWalk.i64_in _ (by omega)
          have v15 : IntKind.i64.wrap ((k : Int) - 15) = ↑k - 15 := IntWalk.i64_in _ (by omega)
          have v16 : IntKind.i64.wrap ((k : Int) - 16) = ↑k - 16 := IntWalk.i64_in _ (by omega)
          have e2 : ((k : Int) - 2).toNat = k - 2 := by omega
          have e7 : ((k : Int) - 7).toNat = k - 7 := by omega
          have e15 : ((k : Int) - 15).toNat = k - 15 := by omega
          have e16 : ((k : Int) - 16).toNat = k - 16 := by omega
          have a2 : (0 : Int) ≤ ↑k - 2 := by omega
          have a7 : (0 : Int) ≤ ↑k - 7 := by omega
          have a15 : (0 : Int) ≤ ↑k - 15 := by omega
          have a16 : (0 : Int) ≤ ↑k - 16 := by omega
          have b2 : (k : Int) - 2 < 64 := by omega
          have b7 : (k : Int) - 7 < 64 := by omega
          have b15 : (k : Int) - 15 < 64 := by omega
          have b16 : (k : Int) - 16 < 64 := by omega
          have k0 : (0 : Int) ≤ ↑k := by omega
          obtain ⟨l, hl⟩ : ∃ l, wds xs0 k = l := ⟨_, rfl⟩
          have c2 := HR.out.cell (wrow_get xs0 k (k - 2) (by omega))
          have c7 := HR.out.cell (wrow_get xs0 k (k - 7) (by omega))
          have c15 := HR.out.cell (wrow_get xs0 k (k - 15) (by omega))
          have c16 := HR.out.cell (wrow_get xs0 k (k - 16) (by omega))
          obtain ⟨x2, hx2⟩ : ∃ x, (wds xs0 k).getD (k - 2) 0 = x := ⟨_, rfl⟩
          obtain ⟨x7, hx7⟩ : ∃ x, (wds xs0 k).getD (k - 7) 0 = x := ⟨_, rfl⟩
          obtain ⟨x15, hx15⟩ : ∃ x, (wds xs0 k).getD (k - 15) 0 = x := ⟨_, rfl⟩
          obtain ⟨x16, hx16⟩ : ∃ x, (wds xs0 k).getD (k - 16) 0 = x := ⟨_, rfl⟩
          rw [hx2] at c2
          rw [hx7] at c7
          rw [hx15] at c15
          rw [hx16] at c16
          have HXX : Hid (nextW (wds xs0 k) k = (((x16 + bits .xor .u32 (bits .xor .u32 (rotW x15 7) (rotW x15 18)) (x15 / 8)) % 4294967296 + x7) % 4294967296 + bits .xor .u32 (bits .xor .u32 (rotW x2 17) (rotW x2 19)) (x2 / 1024)) % 4294967296) := Lib.hid (by unfold nextW sig0 sig1; rw [hx2, hx7, hx15, hx16])
          clear hx2 hx7 hx15 hx16 hl
          have s0 : wr.cell? ⟨Bw, k, none⟩ = some (.int .u32 0) := HR.out.cell (by unfold wrow; rw [List.getElem?_append_right (by rw [wds_length]; exact Nat.le_refl _), wds_length, Nat.sub_self, List.getElem?_replicate, if_pos (by omega)])
          have s1 := HR.out.frozen k
          go_wp2
          go_quiet (fail)
          go_wp2
          go_region_held3 (fun w' => w'.cell? ⟨Bw, k - 16, none⟩ = some (.int .u32 x16) ∧ w'.cell? ⟨Bw, k - 7, none⟩ = some (.int .u32 x7)) (first | (go_split_ands; exact ⟨(cell_set_ne _ n16).trans (by assumption), (cell_set_ne _ n7).trans (by assumption)⟩) | (go_split_ands; refine ⟨?_, ?_⟩ <;> (first | assumption | exact c16 | exact c7))) (first | (go_at_call 215; refine (turn_any _ _ _ (by omega) (by omega)).mono ?_; rintro ev w' ⟨rfl, nn, rfl⟩))
          all_goals
            clear v2 v7 v15 v16 e2 e7 e15 e16
            go_wp2
            go_roundw
            case rel => exact ⟨k + 1, by omega, by omega, by go_num, Lib.hid (((HR.out.drewN _).set k _).congr (wrow_set xs0 k _ (by omega) (by rw [wds_hi hk16, HXX.out]))), Lib.hid ((HB.out.drewN _).setCell Bw k _ (fun _ => rfl))⟩
            case measure => simp [intOf]; omega

        · rw [show (k : Int) = 64 by omega]
          obtain rfl : k = 64 := by omega
          have HR := Lib.hid HR.out
          have HB := Lib.hid HB.out
          obtain ⟨wb, rfl⟩ : ∃ wb : World, wb = wr := ⟨_, rfl⟩
          have HHb : Hid (IRow wb hb .u32 272 H) := Lib.hid (HHr.out wb HB.out)
          obtain ⟨h0, h1, h2, h3, h4, h5, h6, h7, HHe⟩ : ∃ h0 h1 h2 h3 h4 h5 h6 h7, Hid (H = [h0, h1, h2, h3, h4, h5, h6, h7]) := by
            have := HH8.out
            match H, this with
            | [h0, h1, h2, h3, h4, h5, h6, h7], _ => exact ⟨h0, h1, h2, h3, h4, h5, h6, h7, Lib.hid rfl⟩
          have d0 := HHb.out.cell (j := 0) (x := h0) (by rw [HHe.out]; rfl)
          have d1 := HHb.out.cell (j := 1) (x := h1) (by rw [HHe.out]; rfl)
          have d2 := HHb.out.cell (j := 2) (x := h2) (by rw [HHe.out]; rfl)
          have d3 := HHb.out.cell (j := 3) (x := h3) (by rw [HHe.out]; rfl)
          have d4 := HHb.out.cell (j := 4) (x := h4) (by rw [HHe.out]; rfl)
          have d5 := HHb.out.cell (j := 5) (x := h5) (by rw [HHe.out]; rfl)
          have d6 := HHb.out.cell (j := 6) (x := h6) (by rw [HHe.out]; rfl)
          have d7 := HHb.out.cell (j := 7) (x := h7) (by rw [HHe.out]; rfl)
          go_wp2
          go_quiet (fail)
          clear d0 d1 d2 d3 d4 d5 d6 d7
          have HR := Lib.hid (HR.out.drewN nq)
          have HB := Lib.hid (HB.out.drewN nq)
          obtain ⟨wc, hwc⟩ : ∃ wc, wb.drewN nq = wc := ⟨_, rfl⟩
          rw [hwc] at HR HB ⊢
          clear hwc
          go_wp2
          go_loopw [9, 10, 11, 12, 13, 14, 15, 16, 134] (fun ra rb rc rd re rf rg rh c wr => ∃ (k : Nat) (s : St), k ≤ 64 ∧ c = .int .i64 k ∧ Hid (s = rounds xs0 H k) ∧ ra = .int .u32 s.a ∧ rb = .int .u32 s.b ∧ rc = .int .u32 s.c ∧ rd = .int .u32 s.d ∧ re = .int .u32 s.e ∧ rf = .int .u32 s.f ∧ rg = .int .u32 s.g ∧ rh = .int .u32 s.h ∧ Hid (IRow wr Bw .u32 270 (wrow xs0 64)) ∧ Hid (But (· = Bw) w0 wr)) (fun _ _ _ _ _ _ _ _ c _ => 64 - (intOf c).toNat)
          case atStart => exact ⟨0, ⟨h0, h1, h2, h3, h4, h5, h6, h7⟩, by omega, rfl, Lib.hid (by rw [HHe.out]; rfl), rfl, rfl, rfl, rfl, rfl, rfl, rfl, rfl, HR, HB⟩
          case round =>
            obtain ⟨k, ⟨sa, sb, sc, sd, se, sf, sg, sh⟩, hk, rfl, HS, rfl, rfl, rfl, rfl, rfl, rfl, rfl, rfl, HR, HB⟩ := hrel
            by_cases hlt : k < 64
            · 
              have i1 : (k : Int) < 64 := by omega
              have i0 : (0 : Int) ≤ k := by omega
              have c1 := HR.out.cell (wrow_get xs0 64 k hlt)
              have c2 := HKw.out wr HB.out k hlt
              obtain ⟨xw, hxw⟩ : ∃ x, (wds xs0 64).getD k 0 = x := ⟨_, rfl⟩
              obtain ⟨xk, hxk⟩ : ∃ x, shaK.getD k 0 = x := ⟨_, rfl⟩
              rw [hxw] at c1
              rw [hxk] at c2
              have HN : Hid (rounds xs0 H (k + 1) = roundS ⟨sa, sb, sc, sd, se, sf, sg, sh⟩ xk xw) := Lib.hid (by rw [rounds, ← HS.out, hxw, hxk])
              clear hxw hxk
              go_wp2
              go_quiet ((go_at_call 215; exact Calls.quiet_of (turn_any _ _ _ (by omega) (by omega))))
              go_wp2_with (go_at_call 215; refine (turn_any _ _ _ (by omega) (by omega)).mono ?_; rintro ev w' ⟨rfl, nn, rfl⟩)
              refine ⟨⟨k + 1, _, by omega, by go_num, Lib.hid HN.out.symm, rfl, rfl, rfl, rfl, rfl, rfl, rfl, rfl, Lib.hid (HR.out.drewN _), Lib.hid (HB.out.drewN _)⟩, ?_⟩
              simp [intOf]; omega
            
            · rw [show (k : Int) = 64 by omega]
              obtain rfl : k = 64 := by omega
              have HHb : Hid (IRow wr hb .u32 272 (hrow H (rounds xs0 H 64).list 0)) := Lib.hid (by rw [hrow_zero _ _ HH8.out]; exact HHr.out wr HB.out)
              have HB2 : Hid (But (fun b => b = Bw ∨ b = hb) w0 wr) := Lib.hid (HB.out.mono (fun _ _ h => .inl h))
              have HSL : Hid ((rounds xs0 H 64).list = [sa, sb, sc, sd, se, sf, sg, sh]) := Lib.hid (by rw [← HS.out]; rfl)
              obtain ⟨wd, rfl⟩ : ∃ wd : World, wd = wr := ⟨_, rfl⟩
              go_wp2
              go_loopw [206] (fun c wr => ∃ k : Nat, k ≤ 8 ∧ c = .int .i64 k ∧ Hid (IRow wr hb .u32 272 (hrow H (rounds xs0 H 64).list k)) ∧ Hid (But (fun b => b = Bw ∨ b = hb) w0 wr)) (fun c _ => 8 - (intOf c).toNat)
              case atStart => exact ⟨0, by omega, rfl, HHb, HB2⟩
              case round =>
                obtain ⟨k, hk, rfl, HR, HB⟩ := hrel
                by_cases hlt : k < 8
                · have c0 := HR.out.cell (hrow_get H (rounds xs0 H 64).list k k hlt)
                  rw [if_neg (by omega)] at c0
                  have c1 := HR.out.frozen k
                  obtain ⟨xh, hxh⟩ : ∃ x, H.getD k 0 = x := ⟨_, rfl⟩
                  rw [hxh] at c0
                  have HXH := Lib.hid hxh
                  clear hxh
                  have i1 : (k : Int) < 8 := by omega
                  have i0 : (0 : Int) ≤ k := by omega
                  obtain ⟨xs, hxs⟩ : ∃ x, [sa, sb, sc, sd, se, sf, sg, sh].getD k 0 = x := ⟨_, rfl⟩
                  have ixk : ∀ w, (Instr.index 272 (.agg #[.int .u32 sa, .int .u32 sb, .int .u32 sc, .int .u32 sd, .int .u32 se, .int .u32 sf, .int .u32 sg, .int .u32 sh]) (.int .i64 (k : Int))).run Tryz.prog w = .ok (.int .u32 xs) w := by
                    rcases (by omega : k = 0 ∨ k = 1 ∨ k = 2 ∨ k = 3 ∨ k = 4 ∨ k = 5 ∨ k = 6 ∨ k = 7) with rfl | rfl | rfl | rfl | rfl | rfl | rfl | rfl
                    all_goals
                      rw [← hxs]
                      intro w
                      kernel_rfl
                  have HXS : Hid ((rounds xs0 H 64).list.getD k 0 = xs) := Lib.hid (by rw [HSL.out]; exact hxs)
                  clear hxs
                  go_wp2
                  go_still_tail 9, (by kernel_rfl)
                  clear ixk
                  go_wp2
                  go_roundw
                  case rel => exact ⟨k + 1, by omega, by go_num, Lib.hid (((HR.out.drewN 1).set k _).congr (hrow_set _ _ k hlt _ (by rw [HXH.out, HXS.out]))), Lib.hid ((HB.out.drewN 1).setCell hb k _ (fun _ => .inr rfl))⟩
                  case measure => simp [intOf]; omega
                · obtain rfl : k = 8 := by omega
                  go_wp2
                  go_end0
                  refine ⟨rfl, HR.out.congr (hrow_all H xs0), ?_⟩
                  refine But.step (b := w0) ?_ HB.out (fun i hi q => ?_)
                  · rw [← HW0.out]; exact (But.refl _ w).alloc _
                  · have := HBW.out
                    rcases q with q | q
                    · omega
                    · exact q
end Go.Proofs.YtnpblpbcchminaaGreatDoor
