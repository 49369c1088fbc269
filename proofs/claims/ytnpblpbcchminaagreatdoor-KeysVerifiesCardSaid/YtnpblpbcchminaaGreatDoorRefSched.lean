/- cartularyref04.schedule: the words of a block. No condition. -/
import Derived.Test.YtnpblpbcchminaaGreatDoorShaPlain
import Derived.Test.YtnpblpbcchminaaGreatDoorHashMem
import Derived.Deep.RegionHeld3
import Derived.Deep.DrawnRows
import Derived.BigRegion
namespace Go.Proofs.YtnpblpbcchminaaGreatDoor
open Go.ChangeShapes Go.WideShapes Go.ChangeAt Go.RowKit
set_option linter.unusedVariables false
def wordsV (xs : List UInt8) : Array Value := ((wds xs 64).map (Value.int .u32)).toArray
set_option maxRecDepth 100000 in
set_option maxHeartbeats 4000000 in
theorem sched_any (g o n cap : Nat) (xs : List UInt8) (w : World) (hx : w.rangeAt g o (bytesV xs)) (hl : xs.length = 64) (hn : 64 ≤ n) (hnc : n ≤ cap) (hcm : cap ≤ 9223372036854775807) :
    Calls Tryz.prog 210 #[.slice (some ⟨g, o, none⟩) n cap] w fun ev w' => ev = .returned (.agg (wordsV xs)) ∧ Below w.heap.size w w' := by
  have HX := Lib.hid hx
  have HL := Lib.hid hl
  clear hx hl
  go_enter Tryz.func210, Tryz.ntmps210
  go_wp2
  obtain ⟨w0, hw0⟩ : ∃ w0, (w.alloc (.cells (List.replicate 64 (Value.int .u32 0)).toArray 270)).alloc (.cells (List.replicate 64 (Value.int .u32 0)).toArray 270) = w0 := ⟨_, rfl⟩
  have HR0 : Hid (IRow w0 (w.heap.size + 1) .u32 270 (wrow xs 0)) := Lib.hid (by rw [← hw0, wrow_zero]; have h := irow_new (w := w.alloc (.cells (List.replicate 64 (Value.int .u32 0)).toArray 270)) .u32 270 (List.replicate 64 0) (List.replicate 64 (Value.int .u32 0)).toArray (by simp); rw [World.size_alloc] at h; exact h)
  have HQ0 : Hid (IRow w0 w.heap.size .u32 270 (List.replicate 64 0)) := Lib.hid (by rw [← hw0]; exact (irow_new _ _ _ _ (by simp)).alloc _)
  have HBe : Hid (Below w.heap.size w w0) := Lib.hid (by rw [← hw0]; exact ((Below.refl _ w).alloc (Nat.le_refl _) _).alloc (by simp) _)
  have HB0 : Hid (But (· = w.heap.size + 1) w0 w0) := Lib.hid (But.refl _ _)
  simp only [List.replicate, List.toArray] at hw0
  rw [hw0]
  clear hw0
  have hg0 : g < w.heap.size := block_of_cell (HX.out 0 _ (bAt_cell (xs := xs) (i := 0) (by rw [HL.out]; omega)))
  obtain ⟨Bw, hBw⟩ : ∃ Bw, w.heap.size + 1 = Bw := ⟨_, rfl⟩
  obtain ⟨Br, hBr⟩ : ∃ Br, w.heap.size = Br := ⟨_, rfl⟩
  rw [hBw] at HR0 HB0 ⊢
  rw [hBr] at HQ0 HBe hBw hg0 ⊢
  have HBW : Hid (Br < Bw) := Lib.hid (by omega)
  have HBR := Lib.hid hBr
  clear hBw hBr
  have HBy : Hid (∀ wr, But (· = Bw) w0 wr → ∀ i, i < 64 → wr.cell? ⟨g, o + i, none⟩ = some (.int .u8 (bAt xs i))) := Lib.hid (fun wr hb i hi => by
    have h1 := HX.out i _ (bAt_cell (by rw [HL.out]; exact hi))
    refine hb.cell (cell_below HBe.out h1 hg0) ?_
    have := HBW.out
    show ¬ g = Bw
    omega)
  have hgB : ¬ g = Bw := by have := HBW.out; omega
  have hBg : ¬ Bw = g := fun e => hgB e.symm
  go_loopw [4] (fun c wr => ∃ k : Nat, k ≤ 16 ∧ c = .int .i64 k ∧ Hid (IRow wr Bw .u32 270 (wrow xs k)) ∧ Hid (But (· = Bw) w0 wr)) (fun c _ => 16 - (intOf c).toNat)
  case atStart => exact ⟨0, by omega, rfl, HR0, HB0⟩
  case round =>
    obtain ⟨k, hk, rfl, HR, HB⟩ := hrel
    by_cases hlt : k < 16
    · 
      have i1 : (k : Int) < 16 := by omega
      have c0 : wr.cell? ⟨g, o + 4 * k, none⟩ = some (.int .u8 (bAt xs (4 * k))) := HBy.out wr HB.out (4 * k) (by omega)
      have c1 : wr.cell? ⟨g, o + (4 * k + 1), none⟩ = some (.int .u8 (bAt xs (4 * k + 1))) := HBy.out wr HB.out (4 * k + 1) (by omega)
      have c2 : wr.cell? ⟨g, o + (4 * k + 2), none⟩ = some (.int .u8 (bAt xs (4 * k + 2))) := HBy.out wr HB.out (4 * k + 2) (by omega)
      have c3 : wr.cell? ⟨g, o + (4 * k + 3), none⟩ = some (.int .u8 (bAt xs (4 * k + 3))) := HBy.out wr HB.out (4 * k + 3) (by omega)
      obtain ⟨x0, hx0⟩ : ∃ x, bAt xs (4 * k) = x := ⟨_, rfl⟩
      obtain ⟨x1, hx1⟩ : ∃ x, bAt xs (4 * k + 1) = x := ⟨_, rfl⟩
      obtain ⟨x2, hx2⟩ : ∃ x, bAt xs (4 * k + 2) = x := ⟨_, rfl⟩
      obtain ⟨x3, hx3⟩ : ∃ x, bAt xs (4 * k + 3) = x := ⟨_, rfl⟩
      have y0 := bAt_bd xs (4 * k)
      have y1 := bAt_bd xs (4 * k + 1)
      have y2 := bAt_bd xs (4 * k + 2)
      have y3 := bAt_bd xs (4 * k + 3)
      rw [hx0] at c0 y0
      rw [hx1] at c1 y1
      rw [hx2] at c2 y2
      rw [hx3] at c3 y3
      have HXX : Hid (wordB xs k = bits .or .u32 (bits .or .u32 (bits .or .u32 (x0 * 16777216) (x1 * 65536)) (x2 * 256)) x3) := Lib.hid (by unfold wordB; rw [hx0, hx1, hx2, hx3])
      clear hx0 hx1 hx2 hx3
      have s0 : wr.cell? ⟨Bw, k, none⟩ = some (.int .u32 0) := HR.out.cell (by unfold wrow; rw [List.getElem?_append_right (by rw [wds_length]; exact Nat.le_refl _), wds_length, Nat.sub_self, List.getElem?_replicate, if_pos (by omega)])
      have s1 := HR.out.frozen k
      have i2 : (0 : Int) ≤ 4 * ↑k := by omega
      have i3 : (4 : Int) * ↑k + 3 < ↑n := by omega
      have e1 : (4 * (k : Int)).toNat = 4 * k := by omega
      have e2 : (4 * (k : Int) + 1).toNat = 4 * k + 1 := by omega
      have e3 : (4 * (k : Int) + 2).toNat = 4 * k + 2 := by omega
      have e4 : (4 * (k : Int) + 3).toNat = 4 * k + 3 := by omega
      have v0 : IntKind.i64.wrap (4 * (k : Int)) = 4 * ↑k := IntWalk.i64_in _ (by omega)
      have v1 : IntKind.i64.wrap (4 * (k : Int) + 1) = 4 * ↑k + 1 := IntWalk.i64_in _ (by omega)
      have v2 : IntKind.i64.wrap (4 * (k : Int) + 2) = 4 * ↑k + 2 := IntWalk.i64_in _ (by omega)
      have v3 : IntKind.i64.wrap (4 * (k : Int) + 3) = 4 * ↑k + 3 := IntWalk.i64_in _ (by omega)
      have z1 : (0 : Int) ≤ 4 * ↑k + 1 := by omega
      have z2 : (0 : Int) ≤ 4 * ↑k + 2 := by omega
      have z3 : (0 : Int) ≤ 4 * ↑k + 3 := by omega
      have k0 : (0 : Int) ≤ ↑k := by omega
      have k64 : (k : Int) < 64 := by omega
      have q0 : (4 : Int) * ↑k < ↑n := by omega
      have q1 : (4 : Int) * ↑k + 1 < ↑n := by omega
      have q2 : (4 : Int) * ↑k + 2 < ↑n := by omega
      go_wp2
      go_region_held3 (fun w' => w'.cell? ⟨g, o + 4 * k, none⟩ = some (.int .u8 x0) ∧ w'.cell? ⟨g, o + (4 * k + 1), none⟩ = some (.int .u8 x1) ∧ w'.cell? ⟨g, o + (4 * k + 2), none⟩ = some (.int .u8 x2) ∧ w'.cell? ⟨g, o + (4 * k + 3), none⟩ = some (.int .u8 x3)) (go_keep) (fail)
      clear v0 v1 v2 v3 e1 e2 e3 e4
      go_wp2
      go_roundw
      case rel => exact ⟨k + 1, by omega, by go_num, Lib.hid ((HR.out.set k _).congr (wrow_set xs k _ (by omega) (by rw [wds_lo hlt, HXX.out]))), Lib.hid ((HB.out.setCell Bw k _ (fun _ => rfl)).drew)⟩
      case measure => simp [intOf]; omega

    · rw [show (k : Int) = 16 by omega]
      obtain rfl : k = 16 := by omega
      have HR := Lib.hid HR.out
      have HB := Lib.hid HB.out
      obtain ⟨wa, rfl⟩ : ∃ wa : World, wa = wr := ⟨_, rfl⟩
      go_wp2
      go_loopw [5] (fun c wr => ∃ k : Nat, 16 ≤ k ∧ k ≤ 64 ∧ c = .int .i64 k ∧ Hid (IRow wr Bw .u32 270 (wrow xs k)) ∧ Hid (But (· = Bw) w0 wr)) (fun c _ => 64 - (intOf c).toNat)
      case atStart => exact ⟨16, by omega, by omega, rfl, HR, HB⟩
      case round =>
        obtain ⟨k, hk16, hk, rfl, HR, HB⟩ := hrel
        by_cases hlt : k < 64
        · 
          have i1 : (k : Int) < 64 := by omega
          have i16 : (16 : Int) ≤ k := by omega
          have i2 : (2 : Int) ≤ k := by omega
          have i7 : (7 : Int) ≤ k := by omega
          have i15 : (15 : Int) ≤ k := by omega
          have n7 : ¬ k = k - 7 := by omega
          have n16 : ¬ k = k - 16 := by omega
          have n7' : ¬ k - 7 = k := by omega
          have n16' : ¬ k - 16 = k := by omega
          have v2 : IntKind.i64.wrap ((k : Int) - 2) = ↑k - 2 := IntWalk.i64_in _ (by omega)
          have v7 : IntKind.i64.wrap ((k : Int) - 7) = ↑k - 7 := IntWalk.i64_in _ (by omega)
          have v15 : IntKind.i64.wrap ((k : Int) - 15) = ↑k - 15 := IntWalk.i64_in _ (by omega)
          have v16 : IntKind.i64.wrap ((k : Int) - 16) = ↑k - 16 := IntWalk.i64_in _ (by omega)
          have e2 : ((k : Int) - 2).toNat = k - 2 := by omega
          have e7 : ((k : Int) - 7).toNat = k - 7 := by omega
          have e15 : ((k : Int) - 15).toNat = k - 15 := by omega
          have e16 : ((k : Int) - 16).toNat = k - 16 := by omega
          have a2 : (0 : Int) ≤ ↑k - 2 := by omega
          have a7 : (0 : Int) ≤ ↑k - 7 := by omega
          have a15 : (0 : Int) ≤ ↑k - 15 := by omega
          have a16 : (0 : Int) ≤ ↑k - 16 := by omega
          have b2 : (k : Int) - 2 < 64 := by omega
          have b7 : (k : Int) - 7 < 64 := by omega
          have b15 : (k : Int) - 15 < 64 := by omega
          have b16 : (k : Int) - 16 < 64 := by omega
          have k0 : (0 : Int) ≤ ↑k := by omega
          obtain ⟨l, hl⟩ : ∃ l, wds xs k = l := ⟨_, rfl⟩
          have c2 := HR.out.cell (wrow_get xs k (k - 2) (by omega))
          have c7 := HR.out.cell (wrow_get xs k (k - 7) (by omega))
          have c15 := HR.out.cell (wrow_get xs k (k - 15) (by omega))
          have c16 := HR.out.cell (wrow_get xs k (k - 16) (by omega))
          obtain ⟨x2, hx2⟩ : ∃ x, (wds xs k).getD (k - 2) 0 = x := ⟨_, rfl⟩
          obtain ⟨x7, hx7⟩ : ∃ x, (wds xs k).getD (k - 7) 0 = x := ⟨_, rfl⟩
          obtain ⟨x15, hx15⟩ : ∃ x, (wds xs k).getD (k - 15) 0 = x := ⟨_, rfl⟩
          obtain ⟨x16, hx16⟩ : ∃ x, (wds xs k).getD (k - 16) 0 = x := ⟨_, rfl⟩
          rw [hx2] at c2
          rw [hx7] at c7
          rw [hx15] at c15
          rw [hx16] at c16
          have HXX : Hid (nextW (wds xs k) k = (((x16 + bits .xor .u32 (bits .xor .u32 (rotW x15 7) (rotW x15 18)) (x15 / 8)) % 4294967296 + x7) % 4294967296 + bits .xor .u32 (bits .xor .u32 (rotW x2 17) (rotW x2 19)) (x2 / 1024)) % 4294967296) := Lib.hid (by unfold nextW sig0 sig1; rw [hx2, hx7, hx15, hx16])
          clear hx2 hx7 hx15 hx16 hl
          have s0 : wr.cell? ⟨Bw, k, none⟩ = some (.int .u32 0) := HR.out.cell (by unfold wrow; rw [List.getElem?_append_right (by rw [wds_length]; exact Nat.le_refl _), wds_length, Nat.sub_self, List.getElem?_replicate, if_pos (by omega)])
          have s1 := HR.out.frozen k
          go_wp2
          go_region_held3 (fun w' => w'.cell? ⟨Bw, k - 16, none⟩ = some (.int .u32 x16) ∧ w'.cell? ⟨Bw, k - 7, none⟩ = some (.int .u32 x7)) (first | (go_split_ands; exact ⟨(cell_set_ne _ n16).trans (by assumption), (cell_set_ne _ n7).trans (by assumption)⟩) | (go_split_ands; refine ⟨?_, ?_⟩ <;> (first | assumption | exact c16 | exact c7))) (first | (go_at_call 211; refine (refturn_any _ _ _ (by omega) (by omega)).mono ?_; rintro ev w' ⟨rfl, nn, rfl⟩))
          all_goals
            clear v2 v7 v15 v16 e2 e7 e15 e16
            go_wp2
            go_roundw
            case rel => exact ⟨k + 1, by omega, by omega, by go_num, Lib.hid (((HR.out.drewN _).set k _).congr (wrow_set xs k _ (by omega) (by rw [wds_hi hk16, HXX.out]))), Lib.hid ((HB.out.drewN _).setCell Bw k _ (fun _ => rfl))⟩
            case measure => simp [intOf]; omega

        · rw [show (k : Int) = 64 by omega]
          obtain rfl : k = 64 := by omega
          have HR := Lib.hid HR.out
          have HB := Lib.hid HB.out
          obtain ⟨wb, rfl⟩ : ∃ wb : World, wb = wr := ⟨_, rfl⟩
          have HQ := Lib.hid (HQ0.out.block (HB.out.same Br HQ0.out.lt (by have := HBW.out; show ¬ Br = Bw; omega)))
          have hgq : wb.heap[Br]? = some (.cells ((List.replicate 64 (0 : Int)).map (Value.int .u32)).toArray 270 (0, 0)) := HQ.out
          have hgr : wb.heap[Bw]? = some (.cells (wordsV xs) 270 (0, 0)) := by have := HR.out; rw [show wrow xs 64 = wds xs 64 by simp [wrow]] at this; exact this
          have hsz : (wordsV xs).size = 64 := by simp [wordsV, wds_length]
          have hone : (wordsV xs).all (·.oneCell') = true := all_oneCell_toArray (by intro u hu; simp only [List.mem_map] at hu; obtain ⟨x, _, rfl⟩ := hu; rfl)
          have HGQ := Lib.hid hgq
          have HGR := Lib.hid hgr
          have HSZ := Lib.hid hsz
          clear hgq hgr hsz
          have HI : Hid ((Tryz.prog.info? 270).map (·.size) = some (wordsV xs).size) := Lib.hid (by rw [HSZ.out]; kernel_rfl)
          go_wp2_with (first | (refine wpList_load_row rfl 270 _ rfl Bw rfl 270 (wordsV xs) (0, 0) _ HGR.out Tryz.underlying270 rfl HI.out ?_) | (refine wpList_store_row rfl 270 _ _ rfl Br (wordsV xs) rfl rfl 270 _ HGQ.out HI.out (by rw [HSZ.out]; simp) hone ?_))
          refine bodyPost_ret (v := .agg (wordsV xs)) (results_cell_row rfl _ _ Br 270 (wordsV xs) (0, 0) _ rfl (setRow_heap _ _ _ _ _ _ HGQ.out) Tryz.underlying270 rfl HI.out) rfl ⟨rfl, by rw [HBR.out]; exact HBe.out.trans (But.to_below (B := Br) (S := fun b => b = Bw ∨ b = Br) ((HB.out.mono (fun _ _ q => Or.inl q)).setRow Br _ (fun _ => Or.inr rfl)) (Nat.le_of_lt HQ0.out.lt) (fun k hk q => by have := HBW.out; omega))⟩
end Go.Proofs.YtnpblpbcchminaaGreatDoor
