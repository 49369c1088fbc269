/- cartularyref04.block: the eight words behind a block. No condition. -/
import Derived.Test.YtnpblpbcchminaaGreatDoorRefSched
namespace Go.Proofs.YtnpblpbcchminaaGreatDoor
open Go.ChangeShapes Go.WideShapes Go.ChangeAt Go.RowKit
set_option linter.unusedVariables false
def intsV (l : List Int) : Array Value := (l.map (Value.int .u32)).toArray
theorem intsV_size (l : List Int) : (intsV l).size = l.length := by simp [intsV]
theorem intsV_one (l : List Int) : (intsV l).all (·.oneCell') = true := all_oneCell_toArray (by intro u hu; simp only [List.mem_map] at hu; obtain ⟨x, _, rfl⟩ := hu; rfl)
theorem irow_of {w : World} {b : Nat} {t : TypeId} {l : List Int} (h : w.heap[b]? = some (.cells (intsV l) t (0, 0))) : IRow w b .u32 t l := h
theorem St.list_length (s : St) : s.list.length = 8 := rfl
theorem blk_swap (H : List Int) (xs : List UInt8) : hrow (rounds xs H 64).list H 8 = blkL H xs := by
  unfold hrow blkL
  refine List.map_congr_left fun i hi => ?_
  rw [if_pos (List.mem_range.1 hi), Int.add_comm]
set_option maxRecDepth 100000 in
set_option maxHeartbeats 4000000 in
theorem refblock_any (g o n cap : Nat) (H : List Int) (xs : List UInt8) (kv : Array Value) (w : World) (hkv : kv = intsV shaK) (hH8 : H.length = 8) (hx : w.rangeAt g o (bytesV xs)) (hl : xs.length = 64) (hn : 64 ≤ n) (hnc : n ≤ cap) (hcm : cap ≤ 9223372036854775807) :
    Calls Tryz.prog 193 #[.agg (intsV H), .slice (some ⟨g, o, none⟩) n cap, .agg kv] w fun ev w' => ev = .returned (.agg (intsV (blkL H xs))) ∧ Below w.heap.size w w' := by
  have HX := Lib.hid hx
  have HL := Lib.hid hl
  have HKV := Lib.hid hkv
  have HH8 := Lib.hid hH8
  obtain ⟨hv, hhv⟩ : ∃ hv, intsV H = hv := ⟨_, rfl⟩
  have HHV := Lib.hid hhv
  rw [hhv]
  clear hx hl hkv hH8 hhv
  go_enter Tryz.func193, Tryz.ntmps193
  have hb0 : g < w.heap.size := block_of_cell (HX.out 0 _ (bAt_cell (xs := xs) (i := 0) (by rw [HL.out]; omega)))
  have HW : Hid (∀ w1, Below (((w.alloc (.cells hv 272)).alloc (.cells kv 270)).alloc (.cells (List.replicate 8 (Value.int .u32 0)).toArray 272)).heap.size (((w.alloc (.cells hv 272)).alloc (.cells kv 270)).alloc (.cells (List.replicate 8 (Value.int .u32 0)).toArray 272)) w1 →
      w1.heap[w.heap.size]? = some (.cells hv 272 (0, 0)) ∧ w1.heap[w.heap.size + 1]? = some (.cells kv 270 (0, 0)) ∧ IRow w1 (w.heap.size + 1 + 1) .u32 272 (List.replicate 8 0) ∧ Below w.heap.size w w1 ∧ w.heap.size + 3 ≤ w1.heap.size) := Lib.hid (fun w1 h => by
    have h0 : (w.alloc (.cells hv 272)).heap[w.heap.size]? = some (.cells hv 272 (0, 0)) := heap_alloc_new _ _
    have h1 : ((w.alloc (.cells hv 272)).alloc (.cells kv 270)).heap[w.heap.size + 1]? = some (.cells kv 270 (0, 0)) := by have := heap_alloc_new (w.alloc (.cells hv 272)) (.cells kv 270); rwa [World.size_alloc] at this
    have h2 := irow_new (w := (w.alloc (.cells hv 272)).alloc (.cells kv 270)) .u32 272 (List.replicate 8 0) (List.replicate 8 (Value.int .u32 0)).toArray (by simp)
    rw [World.size_alloc, World.size_alloc] at h2
    have hsz := h.size
    simp only [World.size_alloc] at hsz
    refine ⟨?_, ?_, h2.below h (by simp only [World.size_alloc]; omega), ?_, by omega⟩
    · rw [h.block _ (by simp only [World.size_alloc]; omega)]
      exact (((((Below.refl (w.heap.size + 1) (w.alloc (.cells hv 272))).alloc (by simp) _).alloc (by simp) _).block w.heap.size (by omega))).trans h0
    · rw [h.block _ (by simp only [World.size_alloc]; omega)]
      exact (((Below.refl (w.heap.size + 2) ((w.alloc (.cells hv 272)).alloc (.cells kv 270))).alloc (by simp) _).block (w.heap.size + 1) (by omega)).trans h1
    · exact ((((Below.refl _ w).alloc (Nat.le_refl _) _).alloc (by simp) _).alloc (by simp; omega) _).trans (h.mono (by simp only [World.size_alloc]; omega)))
  simp only [List.replicate, List.toArray] at HW
  go_wp2_with fail
  refine (sched_any g o n cap xs _ (fun j v h => cell_alloc (cell_alloc (cell_alloc (HX.out j v h) _) _) _) HL.out hn hnc hcm).mono ?_
  rintro ev w1 ⟨rfl, b1⟩
  obtain ⟨q0, q1, q2, q3, q4⟩ := HW.out w1 b1
  have HQ0 := Lib.hid q0
  have HQ1 := Lib.hid q1
  have HQ2 := Lib.hid q2
  have HQ3 := Lib.hid q3
  clear q0 q1 q2 q3 b1 HW
  obtain ⟨wv, hwv⟩ : ∃ wv, wordsV xs = wv := ⟨_, rfl⟩
  have HWV := Lib.hid hwv
  rw [hwv]
  clear hwv
  have HS1 : Hid (wv.size = 64) := Lib.hid (by rw [← HWV.out]; simp [wordsV, wds_length])
  have HO1 : Hid (wv.all (·.oneCell') = true) := Lib.hid (by rw [← HWV.out]; exact intsV_one _)
  have HS2 : Hid (hv.size = 8) := Lib.hid (by rw [← HHV.out, intsV_size]; exact HH8.out)
  have HO2 : Hid (hv.all (·.oneCell') = true) := Lib.hid (by rw [← HHV.out]; exact intsV_one _)
  have HI1 : Hid ((Tryz.prog.info? 270).map (·.size) = some wv.size) := Lib.hid (by rw [HS1.out]; kernel_rfl)
  have HI2 : Hid ((Tryz.prog.info? 272).map (·.size) = some hv.size) := Lib.hid (by rw [HS2.out]; kernel_rfl)
  go_wp2_with (first
    | (refine wpList_store_row rfl 270 _ _ rfl w1.heap.size wv rfl rfl 270 _ (heap_alloc_new _ _) HI1.out (by rw [HS1.out]; rfl) HO1.out ?_)
    | (refine wpList_load_row rfl 272 _ rfl w.heap.size rfl 272 hv (0, 0) _ (heap_new_over HQ0.out _ _) Tryz.underlying272 rfl HI2.out ?_)
    | (refine wpList_store_row rfl 272 _ _ rfl (w1.heap.size + 1) hv rfl rfl 272 _ (by have h := heap_alloc_new ((w1.alloc (.cells (List.replicate 64 (Value.int .u32 0)).toArray 270)).setRow w1.heap.size wv) (.cells (List.replicate 8 (Value.int .u32 0)).toArray 272); simp only [setRow_size, World.size_alloc] at h; exact h) HI2.out (by rw [HS2.out]; rfl) HO2.out ?_))
  have HT0 : Hid (IRow ((((w1.alloc (.cells (List.replicate 64 (Value.int .u32 0)).toArray 270)).setRow w1.heap.size wv).alloc (.cells (List.replicate 8 (Value.int .u32 0)).toArray 272)).setRow (w1.heap.size + 1) hv) w1.heap.size .u32 270 (wds xs 64)) := Lib.hid (by
    unfold IRow
    rw [setRow_other _ _ _ _ (by omega)]
    have h : ((w1.alloc (.cells (List.replicate 64 (Value.int .u32 0)).toArray 270)).setRow w1.heap.size wv).heap[w1.heap.size]? = some (.cells wv 270 (0, 0)) := setRow_heap _ _ _ _ _ _ (heap_alloc_new _ _)
    rw [((Below.refl (w1.heap.size + 1) _).alloc (by simp) _).block w1.heap.size (by omega), h, ← HWV.out]; rfl)
  have HV0 : Hid (IRow ((((w1.alloc (.cells (List.replicate 64 (Value.int .u32 0)).toArray 270)).setRow w1.heap.size wv).alloc (.cells (List.replicate 8 (Value.int .u32 0)).toArray 272)).setRow (w1.heap.size + 1) hv) (w1.heap.size + 1) .u32 272 (rounds xs H 0).list) := Lib.hid (by
    unfold IRow
    have h := heap_alloc_new ((w1.alloc (.cells (List.replicate 64 (Value.int .u32 0)).toArray 270)).setRow w1.heap.size wv) (.cells (List.replicate 8 (Value.int .u32 0)).toArray 272)
    simp only [setRow_size, World.size_alloc] at h
    rw [setRow_heap _ _ _ _ _ _ h, ← HHV.out]
    have := HH8.out
    match H, this with
    | [h0, h1, h2, h3, h4, h5, h6, h7], _ => rfl)
  have HB0 : Hid (Below w1.heap.size w1 ((((w1.alloc (.cells (List.replicate 64 (Value.int .u32 0)).toArray 270)).setRow w1.heap.size wv).alloc (.cells (List.replicate 8 (Value.int .u32 0)).toArray 272)).setRow (w1.heap.size + 1) hv)) := Lib.hid (below_setRow ((below_setRow ((Below.refl _ w1).alloc (Nat.le_refl _) _) _ _ (Nat.le_refl _)).alloc (by simp) _) _ _ (by omega))
  simp only [List.replicate, List.toArray] at HT0 HV0 HB0
  obtain ⟨B7, hB7⟩ : ∃ B7, w1.heap.size = B7 := ⟨_, rfl⟩
  have HB7 := Lib.hid hB7
  rw [hB7] at HT0 HV0 HB0 q4 ⊢
  clear hB7
  go_loopw [9] (fun c wr => ∃ k : Nat, k ≤ 64 ∧ c = .int .i64 k ∧ Hid (IRow wr B7 .u32 270 (wds xs 64)) ∧ Hid (IRow wr (B7 + 1) .u32 272 (rounds xs H k).list) ∧ Hid (Below B7 w1 wr)) (fun c _ => 64 - (intOf c).toNat)
  case atStart => exact ⟨0, by omega, rfl, HT0, HV0, HB0⟩
  case round =>
    obtain ⟨k, hk, rfl, HT, HV, HB⟩ := hrel
    by_cases hlt : k < 64
    · 
      have i1 : (k : Int) < 64 := by omega
      have i0 : (0 : Int) ≤ k := by omega
      have c1 := HT.out.cell (j := k) (x := (wds xs 64).getD k 0) (by rw [List.getD_eq_getElem?_getD, List.getElem?_eq_getElem (by rw [wds_length]; exact hlt)]; rfl)
      have c2 : wr.cell? ⟨w.heap.size + 1, k, none⟩ = some (.int .u32 (shaK.getD k 0)) := by
        have h1 : wr.heap[w.heap.size + 1]? = some (.cells (intsV shaK) 270 (0, 0)) := by rw [HB.out.block _ (by omega), HQ1.out, HKV.out]
        exact (irow_of h1).cell (by rw [List.getD_eq_getElem?_getD, List.getElem?_eq_getElem (by rw [show shaK.length = 64 from rfl]; exact hlt)]; rfl)
      obtain ⟨xw, hxw⟩ : ∃ x, (wds xs 64).getD k 0 = x := ⟨_, rfl⟩
      obtain ⟨xk, hxk⟩ : ∃ x, shaK.getD k 0 = x := ⟨_, rfl⟩
      rw [hxw] at c1
      rw [hxk] at c2
      obtain ⟨⟨sa, sb, sc, sd, se, sf, sg, sh⟩, hs⟩ : ∃ s, rounds xs H k = s := ⟨_, rfl⟩
      have HSe : Hid ((rounds xs H k).list = [sa, sb, sc, sd, se, sf, sg, sh]) := Lib.hid (by rw [hs]; rfl)
      have HN : Hid (rounds xs H (k + 1) = roundS ⟨sa, sb, sc, sd, se, sf, sg, sh⟩ xk xw) := Lib.hid (by rw [rounds, hs, hxw, hxk])
      clear hxw hxk hs
      have d0 := HV.out.cell (j := 0) (x := sa) (by rw [HSe.out]; rfl)
      have d1 := HV.out.cell (j := 1) (x := sb) (by rw [HSe.out]; rfl)
      have d2 := HV.out.cell (j := 2) (x := sc) (by rw [HSe.out]; rfl)
      have d3 := HV.out.cell (j := 3) (x := sd) (by rw [HSe.out]; rfl)
      have d4 := HV.out.cell (j := 4) (x := se) (by rw [HSe.out]; rfl)
      have d5 := HV.out.cell (j := 5) (x := sf) (by rw [HSe.out]; rfl)
      have d6 := HV.out.cell (j := 6) (x := sg) (by rw [HSe.out]; rfl)
      have d7 := HV.out.cell (j := 7) (x := sh) (by rw [HSe.out]; rfl)
      go_wp2
      go_quiet ((go_at_call 211; exact Calls.quiet_of (refturn_any _ _ _ (by omega) (by omega))))
      have HT := Lib.hid (HT.out.drewN nq)
      have HV := Lib.hid (HV.out.drewN nq)
      have HB := Lib.hid (below_drewN (n := nq) HB.out)
      obtain ⟨wq, hwq⟩ : ∃ wq, wr.drewN nq = wq := ⟨_, rfl⟩
      rw [hwq] at HT HV HB ⊢
      clear hwq c1 c2 d0 d1 d2 d3 d4 d5 d6 d7
      have d0 := HV.out.cell (j := 0) (x := sa) (by rw [HSe.out]; rfl)
      have d1 := HV.out.cell (j := 1) (x := sb) (by rw [HSe.out]; rfl)
      have d2 := HV.out.cell (j := 2) (x := sc) (by rw [HSe.out]; rfl)
      have d3 := HV.out.cell (j := 3) (x := sd) (by rw [HSe.out]; rfl)
      have d4 := HV.out.cell (j := 4) (x := se) (by rw [HSe.out]; rfl)
      have d5 := HV.out.cell (j := 5) (x := sf) (by rw [HSe.out]; rfl)
      have d6 := HV.out.cell (j := 6) (x := sg) (by rw [HSe.out]; rfl)
      have d7 := HV.out.cell (j := 7) (x := sh) (by rw [HSe.out]; rfl)
      go_wp2
      go_quiet ((go_at_call 211; exact Calls.quiet_of (refturn_any _ _ _ (by omega) (by omega))))
      have HT := Lib.hid (HT.out.drewN nq)
      have HV := Lib.hid (HV.out.drewN nq)
      have HB := Lib.hid (below_drewN (n := nq) HB.out)
      obtain ⟨wp, hwp⟩ : ∃ wp, wq.drewN nq = wp := ⟨_, rfl⟩
      rw [hwp] at HT HV HB ⊢
      clear hwp d0 d1 d2 d3 d4 d5 d6 d7
      have d0 := HV.out.cell (j := 0) (x := sa) (by rw [HSe.out]; rfl)
      have d1 := HV.out.cell (j := 1) (x := sb) (by rw [HSe.out]; rfl)
      have d2 := HV.out.cell (j := 2) (x := sc) (by rw [HSe.out]; rfl)
      have d3 := HV.out.cell (j := 3) (x := sd) (by rw [HSe.out]; rfl)
      have d4 := HV.out.cell (j := 4) (x := se) (by rw [HSe.out]; rfl)
      have d5 := HV.out.cell (j := 5) (x := sf) (by rw [HSe.out]; rfl)
      have d6 := HV.out.cell (j := 6) (x := sg) (by rw [HSe.out]; rfl)
      have d7 := HV.out.cell (j := 7) (x := sh) (by rw [HSe.out]; rfl)
      obtain ⟨X, hX⟩ : ∃ X, (sh + bits .xor .u32 (bits .xor .u32 (rotW se 6) (rotW se 11)) (rotW se 25) + bits .xor .u32 (bits .and .u32 se sf) (bits .and .u32 (bits .xor .u32 IntKind.u32.max se) sg) + xk + xw) % 4294967296 = X := ⟨_, rfl⟩
      obtain ⟨Y, hY⟩ : ∃ Y, (bits .xor .u32 (bits .xor .u32 (rotW sa 2) (rotW sa 13)) (rotW sa 22) + bits .xor .u32 (bits .xor .u32 (bits .and .u32 sa sb) (bits .and .u32 sa sc)) (bits .and .u32 sb sc)) % 4294967296 = Y := ⟨_, rfl⟩
      rw [hX, hY]
      have HR : Hid ((rounds xs H (k + 1)).list = [(X + Y) % 4294967296, sa, sb, sc, (sd + X) % 4294967296, se, sf, sg]) := Lib.hid (by rw [HN.out, ← hX, ← hY]; rfl)
      clear hX hY
      have HI8 : Hid ((Tryz.prog.info? 272).map (·.size) = some (#[.int .u32 ((X + Y) % 4294967296), .int .u32 sa, .int .u32 sb, .int .u32 sc, .int .u32 ((sd + X) % 4294967296), .int .u32 se, .int .u32 sf, .int .u32 sg] : Array Value).size) := Lib.hid (by show _ = some 8; kernel_rfl)
      have HL8 : Hid (((rounds xs H k).list.map (Value.int .u32)).toArray.size = (#[.int .u32 ((X + Y) % 4294967296), .int .u32 sa, .int .u32 sb, .int .u32 sc, .int .u32 ((sd + X) % 4294967296), .int .u32 se, .int .u32 sf, .int .u32 sg] : Array Value).size) := Lib.hid (by rw [HSe.out]; rfl)
      have HO8 : Hid ((#[.int .u32 ((X + Y) % 4294967296), .int .u32 sa, .int .u32 sb, .int .u32 sc, .int .u32 ((sd + X) % 4294967296), .int .u32 se, .int .u32 sf, .int .u32 sg] : Array Value).all (·.oneCell') = true) := Lib.hid (by simp [Value.oneCell'])
      go_wp2_with (refine wpList_store_row rfl 272 _ _ rfl (B7 + 1) #[.int .u32 ((X + Y) % 4294967296), .int .u32 sa, .int .u32 sb, .int .u32 sc, .int .u32 ((sd + X) % 4294967296), .int .u32 se, .int .u32 sf, .int .u32 sg] rfl rfl 272 _ HV.out HI8.out (HL8.out) (HO8.out) ?_)
      have HT2 := Lib.hid (show IRow (wp.setRow (B7 + 1) #[.int .u32 ((X + Y) % 4294967296), .int .u32 sa, .int .u32 sb, .int .u32 sc, .int .u32 ((sd + X) % 4294967296), .int .u32 se, .int .u32 sf, .int .u32 sg]) B7 .u32 270 (wds xs 64) from (by unfold IRow; rw [setRow_other _ _ _ _ (by omega)]; exact HT.out))
      have HV2 := Lib.hid (show IRow (wp.setRow (B7 + 1) #[.int .u32 ((X + Y) % 4294967296), .int .u32 sa, .int .u32 sb, .int .u32 sc, .int .u32 ((sd + X) % 4294967296), .int .u32 se, .int .u32 sf, .int .u32 sg]) (B7 + 1) .u32 272 (rounds xs H (k + 1)).list from (by unfold IRow; rw [HR.out]; exact setRow_heap _ _ _ _ _ _ HV.out))
      refine ⟨⟨k + 1, by omega, by go_num, HT2, HV2, Lib.hid (below_setRow HB.out _ _ (by omega))⟩, ?_⟩
      simp [intOf]; omega
      
    · rw [show (k : Int) = 64 by omega]
      obtain rfl : k = 64 := by omega
      have HVV : Hid (IRow wr (B7 + 1) .u32 272 (hrow (rounds xs H 64).list H 0)) := Lib.hid (by rw [hrow_zero _ _ rfl]; exact HV.out)
      have HBB := Lib.hid HB.out
      obtain ⟨wa, rfl⟩ : ∃ wa : World, wa = wr := ⟨_, rfl⟩
      go_wp2
      go_loopw [12] (fun c wr => ∃ k : Nat, k ≤ 8 ∧ c = .int .i64 k ∧ Hid (IRow wr (B7 + 1) .u32 272 (hrow (rounds xs H 64).list H k)) ∧ Hid (Below B7 w1 wr)) (fun c _ => 8 - (intOf c).toNat)
      case atStart => exact ⟨0, by omega, rfl, HVV, HBB⟩
      case round =>
        obtain ⟨k, hk, rfl, HR, HB⟩ := hrel
        by_cases hlt : k < 8
        · have c0 := HR.out.cell (hrow_get (rounds xs H 64).list H k k hlt)
          rw [if_neg (by omega)] at c0
          have c1 := HR.out.frozen k
          have c2 : wr.cell? ⟨w.heap.size, k, none⟩ = some (.int .u32 (H.getD k 0)) := by
            have h1 : wr.heap[w.heap.size]? = some (.cells (intsV H) 272 (0, 0)) := by rw [HB.out.block _ (by omega), HQ0.out, HHV.out]
            exact (irow_of h1).cell (by rw [List.getD_eq_getElem?_getD, List.getElem?_eq_getElem (by rw [HH8.out]; exact hlt)]; rfl)
          obtain ⟨xh, hxh⟩ : ∃ x, H.getD k 0 = x := ⟨_, rfl⟩
          obtain ⟨xs', hxs⟩ : ∃ x, (rounds xs H 64).list.getD k 0 = x := ⟨_, rfl⟩
          rw [hxh] at c2
          rw [hxs] at c0
          have HXH := Lib.hid hxh
          have HXS := Lib.hid hxs
          clear hxh hxs
          have i1 : (k : Int) < 8 := by omega
          have i0 : (0 : Int) ≤ k := by omega
          go_wp2
          go_still_tail 9, (by kernel_rfl)
          go_wp2
          go_roundw
          case rel => exact ⟨k + 1, by omega, by go_num, Lib.hid (((HR.out.drewN 1).set k _).congr (hrow_set _ _ k hlt _ (by rw [HXH.out, HXS.out]))), Lib.hid ((below_drewN (n := 1) HB.out).setCell (p := ⟨B7 + 1, k, none⟩) (by simp) _)⟩
          case measure => simp [intOf]; omega
        · obtain rfl : k = 8 := by omega
          have HF : Hid (wr.heap[B7 + 1]? = some (.cells (intsV (blkL H xs)) 272 (0, 0))) := Lib.hid (by have := HR.out; rw [blk_swap] at this; exact this)
          have HG : Hid (wr.heap[w.heap.size + 1 + 1]? = some (.cells (intsV (List.replicate 8 0)) 272 (0, 0))) := Lib.hid (by rw [HB.out.block _ (by omega)]; exact HQ2.out)
          have HL9 : Hid ((blkL H xs).length = 8) := Lib.hid (by simp [blkL])
          have HFin : Hid (Below w.heap.size w (wr.setRow (w.heap.size + 1 + 1) (intsV (blkL H xs)))) := Lib.hid (below_setRow (HQ3.out.trans (HB.out.mono (by omega))) _ _ (by omega))
          obtain ⟨rv, hrv⟩ : ∃ rv, intsV (blkL H xs) = rv := ⟨_, rfl⟩
          have HI9 : Hid ((Tryz.prog.info? 272).map (·.size) = some rv.size) := Lib.hid (by rw [← hrv, intsV_size, HL9.out]; kernel_rfl)
          have HS9 : Hid (rv.size = 8) := Lib.hid (by rw [← hrv, intsV_size, HL9.out])
          have HO9 : Hid (rv.all (·.oneCell') = true) := Lib.hid (by rw [← hrv]; exact intsV_one _)
          rw [hrv] at HF HFin
          have HRV := Lib.hid hrv
          clear hrv
          go_wp2_with (first | (refine wpList_load_row rfl 272 _ rfl (B7 + 1) rfl 272 rv (0, 0) _ HF.out Tryz.underlying272 rfl HI9.out ?_) | (refine wpList_store_row rfl 272 _ _ rfl (w.heap.size + 1 + 1) rv rfl rfl 272 _ HG.out HI9.out (by rw [HS9.out, intsV_size]; rfl) HO9.out ?_))
          refine bodyPost_ret (v := .agg rv) (results_cell_row rfl _ _ (w.heap.size + 1 + 1) 272 rv (0, 0) _ rfl (setRow_heap _ _ _ _ _ _ HG.out) Tryz.underlying272 rfl HI9.out) rfl ⟨by rw [HRV.out], HFin.out⟩
end Go.Proofs.YtnpblpbcchminaaGreatDoor
