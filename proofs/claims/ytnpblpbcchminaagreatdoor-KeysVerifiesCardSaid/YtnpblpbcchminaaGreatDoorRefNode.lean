/- ref05.bytes, NodeText, Node: SHA-256 of a node's text. -/
import Derived.Test.YtnpblpbcchminaaGreatDoorRefSum
namespace Go.Proofs.YtnpblpbcchminaaGreatDoor
open Go.ChangeShapes Go.WideShapes Go.ChangeAt Go.RowKit
set_option linter.unusedVariables false
theorem bytes_back2 (w : World) (g o n cap : Nat) (l : List UInt8) (hn : l.length = n) (h : w.rangeAt g o (bytesV l)) : (convert 138 9 (.slice (some ⟨g, o, none⟩) n cap)).run Tryz.prog w = .ok (.string ⟨l.toArray⟩) w := by
  subst hn
  refine run_convert_bytes_back w 138 9 5 ⟨g, o, none⟩ cap l Tryz.underlying138 Tryz.underlying5 Tryz.underlying9 (fun j hj => ?_)
  exact range_add h j _ (bytesV_get (List.getElem?_eq_getElem hj))
set_option maxRecDepth 100000 in
set_option maxHeartbeats 4000000 in
theorem hbytes_any (a : List UInt8) (w : World) (ha : a.length = 32) :
    Calls Tryz.prog 171 #[hv a] w fun ev w' => ev = .returned (.string ⟨a.toArray⟩) ∧ Below w.heap.size w w' := by
  obtain ⟨i0, hi, hz0, hz1, hz2⟩ := info_parts info_u8p
  obtain ⟨va, hva⟩ : ∃ va, (bytesV a).toArray = va := ⟨_, rfl⟩
  have hia : (Tryz.prog.info? 23).map (·.size) = some va.size := by rw [← hva]; simp only [List.size_toArray, bytesV_length, ha]; kernel_rfl
  have hoa : va.all (·.oneCell') = true := by rw [← hva]; exact bytesV_all _
  have hra : Hid ((w.alloc (.cells va 23)).rangeAt w.heap.size 0 (bytesV a)) := Lib.hid (rangeAt_new w va 23 a hva)
  have hba : Hid (Below w.heap.size w (w.alloc (.cells va 23))) := Lib.hid ((Below.refl _ _).alloc (Nat.le_refl _) _)
  rw [show hv a = .agg va by rw [hv, hva]]
  have HVA := Lib.hid (And.intro hva ha)
  clear hva ha
  go_enter Tryz.func171, Tryz.ntmps171
  go_wp2
  have h0w : w.heap.size < (w.alloc (.cells va 23)).heap.size := by simp
  obtain ⟨wa, hwa⟩ : ∃ wa, w.alloc (.cells va 23) = wa := ⟨_, rfl⟩
  rw [hwa] at hra hba h0w ⊢
  clear hwa
  go_loopw [3, 4] (fun v c wr => ∃ (t cap : Nat) (A : Option Addr), t ≤ 32 ∧ v = .slice A t cap ∧ c = .int .i64 (t : Int) ∧ Hid (wr.ownsRow wa.heap.size 5 1 (.slice A t cap) t (bytesV (a.take t))) ∧ Hid (Below wa.heap.size wa wr)) (fun _ c _ => 32 - (intOf c).toNat)
  case atStart => exact ⟨0, 0, none, by omega, rfl, rfl, Lib.hid (World.ownsRow_nil _ _ _ _), Lib.hid (Below.refl _ _)⟩
  case round =>
    obtain ⟨t, cap, A, ht, rfl, rfl, HO, HB⟩ := hrel
    have hwr := HB.out.size
    by_cases hlt : t < 32
    · obtain ⟨x, hx⟩ : ∃ x, a[t]? = some x := ⟨_, List.getElem?_eq_getElem (by rw [HVA.out.2]; exact hlt)⟩
      have c0 : wr.cell? ⟨w.heap.size, t, none⟩ = some (byteV x) := by
        have h := hra.out t (byteV x) (bytesV_get hx)
        rw [Nat.zero_add] at h
        exact cell_below HB.out h h0w
      --c9 : Hid ((wr.alloc (.cells #[byteV x] 5)).cell? ⟨w.heap.size, t, none⟩ = some (byteV x)) := Lib.hid (cell_alloc c0 _)
      obtain ⟨kx, hbx⟩ : ∃ kx : Int, byteV x = .int .u8 kx := ⟨_, rfl⟩
      rw [hbx] at c0
      have HBX := Lib.hid hbx
      have HTk : Hid (bytesV (a.take (t + 1)) = bytesV (a.take t) ++ [.int .u8 kx]) := Lib.hid (by rw [List.take_add_one, hx, bytesV_append, ← hbx]; rfl)
      clear hbx hx
      have i1 : (t : Int) < 32 := by omega
      have i0' : (0 : Int) ≤ t := by omega
      go_wp2_with (at_builtin; go_loud (refine wpList_append_shape rfl (.tmp 9) (.tmp 13) 138 rfl wa.heap.size 5 i0 (.int .u8 0) 1 1 Tryz.underlying138 hi hz0 hz1 hz2 rfl (by decide) (.slice A t cap) t _ rfl (HO.out.alloc _) ⟨wr.heap.size, 0, none⟩ 1 1 [.int .u8 kx] rfl rfl (news_new _ _) (by simp [Value.oneCell']) (by unfold maxLen; omega) (by omega) (by simp; omega) ?_); intro A9 cap9 w3 hown3 hgrow3 hat3)
      have hO3 := Lib.hid (own_congr hown3 rfl (show _ = bytesV (a.take (t + 1)) by rw [HTk.out]))
      have hB3 := Lib.hid ((HB.out.alloc hwr _).grown hgrow3 (by simp; omega) (fun k hk => (HO.out.lt k hk).1))
      clear hown3 hgrow3 hat3
      refine ⟨⟨t + 1, cap9, A9, by omega, rfl, by go_num, hO3, hB3⟩, ?_⟩
      simp [intOf]; omega
    · obtain rfl : t = 32 := by omega
      obtain ⟨g, cap2, hA, hg, hgl⟩ := HO.out.form (by omega)
      cases hA
      have hrg : wr.rangeAt g 0 (bytesV a) := by
        intro i v hi2
        rw [Nat.zero_add]
        have h := HO.out.cells (g := g) rfl i v (by rw [List.take_of_length_le (by rw [HVA.out.2]; omega)]; exact hi2)
        rwa [addr_add] at h
      have kb := bytes_back2 wr g 0 32 cap a HVA.out.2 hrg
      go_wp2
      go_ret
      exact ⟨rfl, hba.out.trans (HB.out.mono (by omega))⟩
set_option maxRecDepth 100000 in
set_option maxHeartbeats 4000000 in
theorem nodetext_any (a b : List UInt8) (w : World) (ha : a.length = 32) (hb : b.length = 32) :
    Calls Tryz.prog 197 #[hv a, hv b] w fun ev w' => (∃ s, ev = .returned (.string s) ∧ bOf s = 1 :: (a ++ b)) ∧ Below w.heap.size w w' := by
  obtain ⟨va, hva⟩ : ∃ va, (bytesV a).toArray = va := ⟨_, rfl⟩
  obtain ⟨vb, hvb⟩ : ∃ vb, (bytesV b).toArray = vb := ⟨_, rfl⟩
  have hsa : va.size = 32 := by rw [← hva]; simp [bytesV_length, ha]
  have hsb : vb.size = 32 := by rw [← hvb]; simp [bytesV_length, hb]
  have hia : (Tryz.prog.info? 23).map (·.size) = some va.size := by rw [hsa]; kernel_rfl
  have hib : (Tryz.prog.info? 23).map (·.size) = some vb.size := by rw [hsb]; kernel_rfl
  have hoa : va.all (·.oneCell') = true := by rw [← hva]; exact bytesV_all _
  have hob : vb.all (·.oneCell') = true := by rw [← hvb]; exact bytesV_all _
  obtain ⟨wb, hwb⟩ : ∃ wb, (w.alloc (.cells va 23)).alloc (.cells vb 23) = wb := ⟨_, rfl⟩
  have ra0 := rangeAt_new w va 23 a hva
  have rb := rangeAt_new (w.alloc (.cells va 23)) vb 23 b hvb
  have hB1 : Below (w.heap.size + 1) (w.alloc (.cells va 23)) wb := by rw [← hwb]; exact (Below.refl _ _).alloc (by simp) _
  rw [hwb, World.size_alloc] at rb
  have ra := rangeAt_below hB1 ra0 (by omega)
  have huh := Tryz.underlying23
  have hla : (Tryz.prog.info? 23).map (·.size) = some (bytesV a).length := by rw [bytesV_length, ha]; kernel_rfl
  have hlb : (Tryz.prog.info? 23).map (·.size) = some (bytesV b).length := by rw [bytesV_length, hb]; kernel_rfl
  have hB0 : Hid (Below w.heap.size w wb) := Lib.hid (by rw [← hwb]; exact ((Below.refl _ _).alloc (Nat.le_refl _) _).alloc (by simp) _)
  have HSB := Lib.hid (show w.heap.size + 1 + 1 = wb.heap.size by rw [← hwb]; simp)
  obtain ⟨sa, hsA⟩ : ∃ sa : ByteArray, ⟨a.toArray⟩ = sa := ⟨_, rfl⟩
  obtain ⟨sb, hsB⟩ : ∃ sb : ByteArray, ⟨b.toArray⟩ = sb := ⟨_, rfl⟩
  have z1 : ByteArray.size ⟨#[1]⟩ = 1 := rfl
  have z2 : sa.size = 32 := by rw [← hsA, ← ha]; rfl
  have z3 : sb.size = 32 := by rw [← hsB, ← hb]; rfl
  have HSS := Lib.hid (And.intro hsA hsB)
  have HWB := Lib.hid hwb
  have HVA := Lib.hid (And.intro (show hv a = .agg va by rw [hv, hva]) (show hv b = .agg vb by rw [hv, hvb]))
  have HL := Lib.hid (And.intro ha hb)
  rw [HVA.out.1, HVA.out.2]
  clear hwb hva hvb ha hb ra0 hB1 hsA hsB
  go_enter Tryz.func197, Tryz.ntmps197
  go_wp2_with fail
  rw [HWB.out]
  refine wp_region_held_drew (S := (fun w' => w'.rangeAt w.heap.size 0 (bytesV a) ∧ w'.rangeAt (w.heap.size + 1) 0 (bytesV b))) (by kernel_rfl) ⟨ra, rb⟩ (fun hHeld => ?_)
  refine wpAnyH_take (i := 0) (v := _) rfl (by kernel_rfl) (by kernel_rfl) (by kernel_rfl) (fun _ _ _ h => h) (yieldsIf_load_mid (by rfl) 23 _ (by rfl) w.heap.size 0 (by rfl) (bytesV a) _ (fun _ h => h.1) huh (by rfl) hla) (by assumption) ?_
  simp only [Act.put, List.getElem_toArray, List.getElem_cons_zero, List.setIfInBounds_toArray, List.set_cons_zero, List.set_cons_succ]
  refine wpAnyH_take (i := 3) (v := _) rfl (by kernel_rfl) (by kernel_rfl) (by kernel_rfl) (fun _ _ _ h => h) (yieldsIf_load_mid (by rfl) 23 _ (by rfl) (w.heap.size + 1) 0 (by rfl) (bytesV b) _ (fun _ h => h.2) huh (by rfl) hlb) (by assumption) ?_
  simp only [Act.put, List.getElem_toArray, List.getElem_cons_zero, List.getElem_cons_succ, List.setIfInBounds_toArray, List.set_cons_zero, List.set_cons_succ]
  refine wpAnyH_ready (rs := [1]) (by kernel_rfl) (by simp) ?_
  refine AllReadyH.cons (i := 1) rfl (fun K2 hK2 => ?_) AllReadyH.nil
  go_simp
  go_at_call 171
  refine (hbytes_any a _ HL.out.1).mono ?_
  rintro ev w1 ⟨rfl, hB1⟩
  rw [HSS.out.1]
  have hs1 : wb.heap.size ≤ w1.heap.size := hB1.size
  have KK1 : w1.rangeAt w.heap.size 0 (bytesV a) ∧ w1.rangeAt (w.heap.size + 1) 0 (bytesV b) := ⟨rangeAt_below hB1 ra (by have := HSB.out; simp; omega), rangeAt_below hB1 rb (by have := HSB.out; simp; omega)⟩
  have HB1 := Lib.hid ((hB0.out.drew).trans (hB1.mono (by have := HSB.out; simp; omega)))
  clear hB1
  try go_wp2_with fail
  refine hK2.out _ _ KK1 (fun hHeld2 => ?_)
  clear hK2 K2
  try simp only [Act.put, List.getElem_toArray, List.getElem_cons_zero, List.getElem_cons_succ, List.setIfInBounds_toArray, List.set_cons_zero, List.set_cons_succ]
  refine wpAnyH_take (i := 2) (v := ?v2) rfl (by kernel_rfl) (by kernel_rfl) (by kernel_rfl) (fun _ _ _ h => h) (Or.inl ⟨by rfl, ?hy2⟩) (by assumption) ?rest2
  case hy2 => (intro w hSw; (try dsimp only at hSw); go_simp; (try with_reducible rfl))
  simp only [Act.put, List.getElem_toArray, List.getElem_cons_zero, List.getElem_cons_succ, List.setIfInBounds_toArray, List.set_cons_zero, List.set_cons_succ]
  refine wpAnyH_ready (rs := [4]) (by kernel_rfl) (by simp) ?_
  refine AllReadyH.cons (i := 4) rfl (fun K2 hK2 => ?_) AllReadyH.nil
  go_simp
  go_at_call 171
  refine (hbytes_any b _ HL.out.2).mono ?_
  rintro ev w2 ⟨rfl, hB2⟩
  rw [HSS.out.2]
  have KK2 : w2.rangeAt w.heap.size 0 (bytesV a) ∧ w2.rangeAt (w.heap.size + 1) 0 (bytesV b) := ⟨rangeAt_below hB2 KK1.1 (by have := HSB.out; omega), rangeAt_below hB2 KK1.2 (by have := HSB.out; omega)⟩
  have HB2 := Lib.hid (HB1.out.trans (hB2.mono (by have := HSB.out; omega)))
  clear hB2
  try go_wp2_with fail
  refine hK2.out _ _ KK2 (fun hHeld2 => ?_)
  clear hK2 K2
  try simp only [Act.put, List.getElem_toArray, List.getElem_cons_zero, List.getElem_cons_succ, List.setIfInBounds_toArray, List.set_cons_zero, List.set_cons_succ]
  refine wpAnyH_take (i := 5) (v := ?v5) rfl (by kernel_rfl) (by kernel_rfl) (by kernel_rfl) (fun _ _ _ h => h) (Or.inl ⟨by rfl, ?hy5⟩) (by assumption) ?rest5
  case hy5 => (intro w hSw; (try dsimp only at hSw); go_simp; (try with_reducible rfl))
  simp only [Act.put, List.getElem_toArray, List.getElem_cons_zero, List.getElem_cons_succ, List.setIfInBounds_toArray, List.set_cons_zero, List.set_cons_succ]
  refine wpAnyH_take (i := 6) (v := ?v6) rfl (by kernel_rfl) (by kernel_rfl) (by kernel_rfl) (fun _ _ _ h => h) (Or.inl ⟨by rfl, ?hy6⟩) (by assumption) ?rest6
  case hy6 => (intro w hSw; (try dsimp only at hSw); go_simp; (try with_reducible rfl))
  simp only [Act.put, List.getElem_toArray, List.getElem_cons_zero, List.getElem_cons_succ, List.setIfInBounds_toArray, List.set_cons_zero, List.set_cons_succ]
  refine wpAnyH_done (by kernel_rfl) ?_ _
  go_wp2
  go_ret
  exact ⟨⟨_, rfl, by rw [← HSS.out.1, ← HSS.out.2]; simp [bOf]⟩, HB2.out⟩
set_option maxRecDepth 100000 in
set_option maxHeartbeats 4000000 in
theorem refnode_any (a b : List UInt8) (w : World) (ha : a.length = 32) (hb : b.length = 32) :
    Calls Tryz.prog 138 #[hv a, hv b] w fun ev w' => ev = .returned (hv (nodeH a b)) ∧ Below w.heap.size w w' := by
  obtain ⟨va, hva⟩ : ∃ va, (bytesV a).toArray = va := ⟨_, rfl⟩
  obtain ⟨vb, hvb⟩ : ∃ vb, (bytesV b).toArray = vb := ⟨_, rfl⟩
  have hsa : va.size = 32 := by rw [← hva]; simp [bytesV_length, ha]
  have hsb : vb.size = 32 := by rw [← hvb]; simp [bytesV_length, hb]
  have hia : (Tryz.prog.info? 23).map (·.size) = some va.size := by rw [hsa]; kernel_rfl
  have hib : (Tryz.prog.info? 23).map (·.size) = some vb.size := by rw [hsb]; kernel_rfl
  have hoa : va.all (·.oneCell') = true := by rw [← hva]; exact bytesV_all _
  have hob : vb.all (·.oneCell') = true := by rw [← hvb]; exact bytesV_all _
  obtain ⟨wb, hwb⟩ : ∃ wb, (w.alloc (.cells va 23)).alloc (.cells vb 23) = wb := ⟨_, rfl⟩
  have ra : wb.heap[w.heap.size]? = some (.cells va 23 (0, 0)) := by rw [← hwb, ((Below.refl _ (w.alloc (.cells va 23))).alloc (Nat.le_refl _) (.cells vb 23)).block _ (by simp)]; exact heap_alloc_new w _
  have rb : wb.heap[w.heap.size + 1]? = some (.cells vb 23 (0, 0)) := by rw [← hwb]; have h := heap_alloc_new (w.alloc (.cells va 23)) (.cells vb 23); rw [World.size_alloc] at h; exact h
  have hB0 : Below w.heap.size w wb := by rw [← hwb]; exact ((Below.refl _ _).alloc (Nat.le_refl _) _).alloc (by simp) _
  have hsb2 : wb.heap.size = w.heap.size + 1 + 1 := by rw [← hwb]; simp
  have hBa : Hid (Below w.heap.size w (wb.alloc (.cells (List.replicate 32 (Value.int .u8 0)).toArray 23))) := Lib.hid (hB0.alloc (by omega) _)
  have hRa : Hid (IRow (wb.alloc (.cells (List.replicate 32 (Value.int .u8 0)).toArray 23)) wb.heap.size .u8 23 (List.replicate 32 0)) := Lib.hid (irow_new _ _ _ _ (by simp))
  have hbw : Below wb.heap.size wb (wb.alloc (.cells (List.replicate 32 (Value.int .u8 0)).toArray 23)) := (Below.refl _ wb).alloc (Nat.le_refl _) _
  have ra2 := (hbw.block w.heap.size (by omega)).trans ra
  have rb2 := (hbw.block (w.heap.size + 1) (by omega)).trans rb
  obtain ⟨wc, hwc⟩ : ∃ wc, wb.alloc (.cells (List.replicate 32 (Value.int .u8 0)).toArray 23) = wc := ⟨_, rfl⟩
  have HSA := Lib.hid (show w.heap.size + 1 + 1 + 1 = wc.heap.size by rw [← hwc]; simp [hsb2])
  rw [hwc, hsb2] at hRa
  rw [hwc] at hBa ra2 rb2
  rw [← hwb] at hwc
  simp only [List.replicate, List.toArray] at hwc
  have HWC := Lib.hid hwc
  have HL := Lib.hid (And.intro ha hb)
  have HRA := Lib.hid (And.intro ra2 rb2)
  have HVA := Lib.hid (And.intro (show hv a = .agg va by rw [hv, hva]) (show hv b = .agg vb by rw [hv, hvb]))
  have HIA := Lib.hid (And.intro hia hib)
  rw [HVA.out.1, HVA.out.2]
  clear hwc hwb hva hvb ha hb ra rb ra2 rb2 hbw hB0 hsb2
  go_enter Tryz.func138, Tryz.ntmps138
  go_wp2_with (first | (refine wpList_load_row rfl 23 _ rfl w.heap.size rfl 23 va (0, 0) _ (by rw [HWC.out]; exact HRA.out.1) Tryz.underlying23 rfl HIA.out.1 ?_) | (refine wpList_load_row rfl 23 _ rfl (w.heap.size + 1) rfl 23 vb (0, 0) _ (by rw [HWC.out]; exact HRA.out.2) Tryz.underlying23 rfl HIA.out.2 ?_))
  rw [HWC.out, ← HVA.out.1, ← HVA.out.2]
  refine (nodetext_any a b wc HL.out.1 HL.out.2).mono ?_
  rintro ev w1 ⟨⟨s, rfl, hs⟩, hB1⟩
  have HS := Lib.hid hs
  have HB1 := Lib.hid hB1
  have hsz : Hid (s.size ≤ 100000000000) := Lib.hid (by have := congrArg List.length hs; rw [bOf_length] at this; rw [this]; simp [HL.out.1, HL.out.2])
  clear hs hB1
  go_wp2_with fail
  refine (refsum_any s w1 hsz.out).mono ?_
  rintro ev w3 ⟨rfl, hB3⟩
  have HG : Hid (w3.heap[w.heap.size + 1 + 1]? = some (.cells ((List.replicate 32 (0 : Int)).map (Value.int .u8)).toArray 23 (0, 0))) := Lib.hid ((hRa.out.below HB1.out (by have := HSA.out; omega)).below hB3 (by have := HSA.out; have := HB1.out.size; omega))
  obtain ⟨rv, hrv⟩ : ∃ rv, (bytesV (nodeH a b)).toArray = rv := ⟨_, rfl⟩
  have HS9 : Hid (rv.size = 32) := Lib.hid (by rw [← hrv]; simp [bytesV_length, nodeH_length])
  have HI9 : Hid ((Tryz.prog.info? 23).map (·.size) = some rv.size) := Lib.hid (by rw [HS9.out]; kernel_rfl)
  have HO9 : Hid (rv.all (·.oneCell') = true) := Lib.hid (by rw [← hrv]; exact bytesV_all _)
  have HFin : Hid (Below w.heap.size w (w3.setRow (w.heap.size + 1 + 1) rv)) := Lib.hid (below_setRow ((hBa.out.trans (HB1.out.mono (by have := HSA.out; omega))).trans (hB3.mono (by have := HSA.out; have := HB1.out.size; omega))) _ _ (by omega))
  have hvv : hv (shaB (bOf s)) = .agg rv := by rw [HS.out, ← nodeH_eq, hv, hrv]
  rw [hvv]
  have HRV := Lib.hid hrv
  clear hrv hB3 hvv
  go_wp2_with (refine wpList_store_row rfl 23 _ _ rfl (w.heap.size + 1 + 1) rv rfl rfl 23 _ HG.out HI9.out (by rw [HS9.out]; simp) HO9.out ?_)
  refine bodyPost_ret (v := .agg rv) (results_cell_row rfl _ _ (w.heap.size + 1 + 1) 23 rv (0, 0) _ rfl (setRow_heap _ _ _ _ _ _ HG.out) Tryz.underlying23 rfl HI9.out) rfl ⟨by rw [hv, HRV.out], HFin.out⟩
end Go.Proofs.YtnpblpbcchminaaGreatDoor
