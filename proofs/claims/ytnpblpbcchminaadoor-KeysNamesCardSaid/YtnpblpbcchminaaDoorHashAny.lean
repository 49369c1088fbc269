/- hash.Leaf, hash.Node, hash.Empty. Condition: the table reads as listed. -/
import Derived.Test.YtnpblpbcchminaaDoorShaParts
import Derived.Lib.EndianMore
namespace Go.Proofs.YtnpblpbcchminaaDoor
open Go.ChangeShapes Go.WideShapes Go.ChangeAt Go.RowKit
set_option linter.unusedVariables false
def leafH (s : ByteArray) : List UInt8 := shaB (0 :: bOf s)
def nodeH (a b : List UInt8) : List UInt8 := shaB (1 :: (a ++ b))
theorem leafH_length (s : ByteArray) : (leafH s).length = 32 := shaB_length _
theorem nodeH_length (a b : List UInt8) : (nodeH a b).length = 32 := shaB_length _
theorem leafH_eq (s : ByteArray) : leafH s = shaB (0 :: bOf s) := rfl
theorem nodeH_eq (a b : List UInt8) : nodeH a b = shaB (1 :: (a ++ b)) := rfl
attribute [irreducible] leafH nodeH
theorem ktab_below {B : Nat} {w w' : World} (h : KTab 17 w) (hb : Below B w w') (hlt : 17 < B) : KTab 17 w' := fun i hi => cell_below hb (h i hi) hlt
theorem trd_new (w : World) (b n : Nat) (l : List ByteArray) (r : Array Value) (fr : Nat × Nat) (hb : b = w.heap.size) (hn : l.length = n) (hr : r = (l.map Value.string).toArray) : TRd (w.alloc (.cells r 9 fr)) (.slice (some ⟨b, 0, none⟩) n n) l := by
  subst hb hn hr
  refine ⟨_, _, rfl, Nat.le_refl _, .inr ⟨_, _, rfl, fun j v hj => ?_⟩⟩
  rw [Nat.zero_add, World.cell?_alloc_mark]
  simpa using hj
theorem rangeAt_new (w : World) (v : Array Value) (t : TypeId) (a : List UInt8) (h : (bytesV a).toArray = v) : (w.alloc (.cells v t)).rangeAt w.heap.size 0 (bytesV a) := by
  subst h
  intro j v hj
  rw [Nat.zero_add, World.cell?_alloc_mark]
  simpa using hj
set_option maxRecDepth 100000 in
set_option maxHeartbeats 4000000 in
theorem hleaf_any (s : ByteArray) (w : World) (hs : s.size ≤ 100000000000) (hK : KTab 17 w) :
    Calls Tryd.prog 41 #[.string s] w fun ev w' => ev = .returned (hv (leafH s)) ∧ Below w.heap.size w w' := by
  have HK := Lib.hid hK
  have HKl := Lib.hid hK.lt
  have HN := Lib.hid (show (bOf s).length ≤ 100000000000 by rw [bOf_length]; omega)
  have hBa : Hid (Below w.heap.size w (w.alloc (.cells (List.replicate 32 (Value.int .u8 0)).toArray 23))) := Lib.hid ((Below.refl _ _).alloc (Nat.le_refl _) _)
  have hRa : Hid (IRow (w.alloc (.cells (List.replicate 32 (Value.int .u8 0)).toArray 23)) w.heap.size .u8 23 (List.replicate 32 0)) := Lib.hid (irow_new _ _ _ _ (by simp))
  obtain ⟨wa, hwa⟩ : ∃ wa, w.alloc (.cells (List.replicate 32 (Value.int .u8 0)).toArray 23) = wa := ⟨_, rfl⟩
  have hsa : w.heap.size + 1 = wa.heap.size := by rw [← hwa]; simp
  rw [hwa] at hBa hRa
  simp only [List.replicate, List.toArray] at hwa
  have HSA := Lib.hid hsa
  have HX : Hid (Below wa.heap.size wa (wa.alloc (.cells #[.string ⟨#[0]⟩, .string s] 9))) := Lib.hid ((Below.refl _ _).alloc (Nat.le_refl _) _)
  have HT : Hid (TRd (wa.alloc (.cells #[.string ⟨#[0]⟩, .string s] 9)) (.slice (some ⟨wa.heap.size, 0, none⟩) 2 2) [⟨#[0]⟩, s]) := Lib.hid (trd_new wa _ 2 _ _ _ rfl rfl rfl)
  have HC : Hid (shaB (catB [⟨#[0]⟩, s]) = leafH s) := Lib.hid (by rw [leafH_eq]; simp [catB, bOf])
  have HL : Hid ((catB [⟨#[0]⟩, s]).length ≤ 140737488355328) := Lib.hid (by have := HN.out; simp [catB]; rw [show (bOf ⟨#[0]⟩).length = 1 from rfl]; omega)
  clear hs hK hsa
  go_enter Tryd.func41, Tryd.ntmps41
  go_wp2_with fail
  try rw [HSA.out]
  refine (sum_any (some ⟨wa.heap.size, 0, none⟩) 2 [⟨#[0]⟩, s] (wa.alloc (.cells #[.string ⟨#[0]⟩, .string s] 9)) HT.out HL.out (by simp) (ktab_below HK.out (hBa.out.trans (HX.out.mono (by have := HSA.out; omega))) HKl.out)).mono ?_
  clear hwa
  rintro ev w3 ⟨rfl, hB3⟩
  have HG : Hid (w3.heap[w.heap.size]? = some (.cells ((List.replicate 32 (0 : Int)).map (Value.int .u8)).toArray 23 (0, 0))) := Lib.hid ((hRa.out.below HX.out (by have := HSA.out; omega)).below hB3 (by have := HSA.out; try simp; omega))
  obtain ⟨rv, hrv⟩ : ∃ rv, (bytesV (shaB (catB [⟨#[0]⟩, s]))).toArray = rv := ⟨_, rfl⟩
  have HS9 : Hid (rv.size = 32) := Lib.hid (by rw [← hrv]; simp [bytesV_length, shaB_length])
  have HI9 : Hid ((Tryd.prog.info? 23).map (·.size) = some rv.size) := Lib.hid (by rw [HS9.out]; kernel_rfl)
  have HO9 : Hid (rv.all (·.oneCell') = true) := Lib.hid (by rw [← hrv]; exact bytesV_all _)
  have HFin : Hid (Below w.heap.size w (w3.setRow w.heap.size rv)) := Lib.hid (below_setRow ((hBa.out.trans (HX.out.mono (by have := HSA.out; omega))).trans (hB3.mono (by have := HSA.out; try simp; omega))) _ _ (Nat.le_refl _))
  have hvv : hv (shaB (catB [⟨#[0]⟩, s])) = .agg rv := by rw [hv, hrv]
  rw [hvv]
  clear hrv hB3
  go_wp2_with (refine wpList_store_row rfl 23 _ _ rfl w.heap.size rv rfl rfl 23 _ HG.out HI9.out (by rw [HS9.out]; simp) HO9.out ?_)
  refine bodyPost_ret (v := .agg rv) (results_cell_row rfl _ _ w.heap.size 23 rv (0, 0) _ rfl (setRow_heap _ _ _ _ _ _ HG.out) Tryd.underlying23 rfl HI9.out) rfl ⟨by rw [← hvv, HC.out], HFin.out⟩

theorem heap_setCells_at {g t : Nat} : ∀ (vs : List Value) (o : Nat) (w : World) (cs : List Value), w.heap[g]? = some (.cells cs.toArray t (0, 0)) → (w.setCells g o vs).heap[g]? = some (.cells (setAll cs o vs).toArray t (0, 0))
  | [], _, _, _, h => h
  | v :: r, o, w, cs, h => by
    rw [World.setCells, setAll]
    refine heap_setCells_at r (o + 1) _ _ ?_
    rw [heap_setCell_same w g o _ t _ h]
    simp
theorem setAll_full (cs vs : List Value) (h : vs.length = cs.length) : setAll cs 0 vs = vs := by
  refine List.ext_getElem? fun q => ?_
  by_cases hq : q < vs.length
  · have := setAll_at vs cs 0 q _ (by omega) (List.getElem?_eq_getElem hq)
    rw [Nat.zero_add] at this
    rw [this, List.getElem?_eq_getElem hq]
  · rw [List.getElem?_eq_none (by rw [setAll_length]; omega), List.getElem?_eq_none (by omega)]
theorem heap_setCells_full {g t : Nat} (w : World) (rv : Array Value) (cs : List Value) (h : w.heap[g]? = some (.cells cs.toArray t (0, 0))) (hl : rv.size = cs.length) : (w.setCells g 0 rv.toList).heap[g]? = some (.cells rv t (0, 0)) := by
  rw [heap_setCells_at _ _ _ _ h, setAll_full _ _ (by simpa using hl)]
theorem IRow.there {w : World} {b : Nat} {k : IntKind} {t : TypeId} {xs : List Int} (h : IRow w b k t xs) (n : Nat) (hn : n = xs.length) : w.there b 0 n := fun j hj => by
  rw [Nat.zero_add]
  exact ⟨by rw [h.cell (List.getElem?_eq_getElem (by omega))]; rfl, h.frozen j⟩
theorem bytes_back (w : World) (g o n : Nat) (l : List UInt8) (hn : l.length = n) (h : w.rangeAt g o (bytesV l)) : (convert 77 9 (.slice (some ⟨g, o, none⟩) n n)).run Tryd.prog w = .ok (.string ⟨l.toArray⟩) w := by
  subst hn
  refine run_convert_bytes_back w 77 9 5 ⟨g, o, none⟩ l.length l Tryd.underlying77 Tryd.underlying5 Tryd.underlying9 (fun j hj => ?_)
  exact range_add h j _ (bytesV_get (List.getElem?_eq_getElem hj))
set_option maxRecDepth 100000 in
set_option maxHeartbeats 4000000 in
theorem hnode_any (a b : List UInt8) (w : World) (ha : a.length = 32) (hb : b.length = 32) (hK : KTab 17 w) :
    Calls Tryd.prog 21 #[hv a, hv b] w fun ev w' => ev = .returned (hv (nodeH a b)) ∧ Below w.heap.size w w' := by
  have HK := Lib.hid hK
  have HKl := Lib.hid hK.lt
  obtain ⟨va, hva⟩ : ∃ va, (bytesV a).toArray = va := ⟨_, rfl⟩
  obtain ⟨vb, hvb⟩ : ∃ vb, (bytesV b).toArray = vb := ⟨_, rfl⟩
  have hsa : va.size = 32 := by rw [← hva]; simp [bytesV_length, ha]
  have hsb : vb.size = 32 := by rw [← hvb]; simp [bytesV_length, hb]
  have hia : (Tryd.prog.info? 23).map (·.size) = some va.size := by rw [hsa]; kernel_rfl
  have hib : (Tryd.prog.info? 23).map (·.size) = some vb.size := by rw [hsb]; kernel_rfl
  have hoa : va.all (·.oneCell') = true := by rw [← hva]; exact bytesV_all _
  have hob : vb.all (·.oneCell') = true := by rw [← hvb]; exact bytesV_all _
  have ra0 := rangeAt_new w va 23 a hva
  have rb0 := rangeAt_new (w.alloc (.cells va 23)) vb 23 b hvb
  obtain ⟨wb, hwb⟩ : ∃ wb, (w.alloc (.cells va 23)).alloc (.cells vb 23) = wb := ⟨_, rfl⟩
  have hB1 : Below (w.alloc (.cells va 23)).heap.size (w.alloc (.cells va 23)) wb := by rw [← hwb]; exact (Below.refl _ _).alloc (Nat.le_refl _) _
  have hB0 : Below w.heap.size w wb := by rw [← hwb]; exact ((Below.refl _ _).alloc (Nat.le_refl _) _).alloc (by simp) _
  have hsb2 : wb.heap.size = w.heap.size + 1 + 1 := by rw [← hwb]; simp
  rw [hwb] at rb0
  rw [World.size_alloc] at rb0 hB1
  have ra1 := rangeAt_below hB1 ra0 (by omega)
  have hBa : Hid (Below w.heap.size w (wb.alloc (.cells (List.replicate 32 (Value.int .u8 0)).toArray 23))) := Lib.hid (hB0.alloc (by omega) _)
  have hRa : Hid (IRow (wb.alloc (.cells (List.replicate 32 (Value.int .u8 0)).toArray 23)) wb.heap.size .u8 23 (List.replicate 32 0)) := Lib.hid (irow_new _ _ _ _ (by simp))
  have ra2 := rangeAt_below ((Below.refl _ wb).alloc (Nat.le_refl _) (.cells (List.replicate 32 (Value.int .u8 0)).toArray 23)) ra1 (by omega)
  have rb2 := rangeAt_below ((Below.refl _ wb).alloc (Nat.le_refl _) (.cells (List.replicate 32 (Value.int .u8 0)).toArray 23)) rb0 (by omega)
  obtain ⟨wc, hwc⟩ : ∃ wc, wb.alloc (.cells (List.replicate 32 (Value.int .u8 0)).toArray 23) = wc := ⟨_, rfl⟩
  have HSA := Lib.hid (show w.heap.size + 1 + 1 + 1 = wc.heap.size by rw [← hwc]; simp [hsb2])
  rw [hwc, hsb2] at hRa
  rw [hwc] at hBa ra2 rb2
  rw [← hwb] at hwc
  simp only [List.replicate, List.toArray] at hwc
  have kb1 := fun (w' : World) (h : w'.rangeAt w.heap.size 0 (bytesV a)) => bytes_back w' w.heap.size 0 32 a ha h
  have kb2 := fun (w' : World) (h : w'.rangeAt (w.heap.size + 1) 0 (bytesV b)) => bytes_back w' (w.heap.size + 1) 0 32 b hb h
  have HX : Hid (Below wc.heap.size wc ((wc.alloc (.cells #[.string ⟨#[1]⟩, .string ⟨a.toArray⟩, .string ⟨b.toArray⟩] 9)).drew)) := Lib.hid (((Below.refl _ _).alloc (Nat.le_refl _) _).drew)
  have HT : Hid (TRd ((wc.alloc (.cells #[.string ⟨#[1]⟩, .string ⟨a.toArray⟩, .string ⟨b.toArray⟩] 9)).drew) (.slice (some ⟨wc.heap.size, 0, none⟩) 3 3) [⟨#[1]⟩, ⟨a.toArray⟩, ⟨b.toArray⟩]) := Lib.hid ((trd_new wc _ 3 _ _ (0, 0) rfl rfl rfl).below ((Below.refl _ _).drew))
  have HC : Hid (shaB (catB [⟨#[1]⟩, ⟨a.toArray⟩, ⟨b.toArray⟩]) = nodeH a b) := Lib.hid (by rw [nodeH_eq]; simp [catB, bOf])
  have HL : Hid ((catB [⟨#[1]⟩, ⟨a.toArray⟩, ⟨b.toArray⟩]).length ≤ 140737488355328) := Lib.hid (by simp [catB, bOf, ha, hb])
  have HWC := Lib.hid hwc
  have HVA := Lib.hid (And.intro hva hvb)
  rw [show hv a = .agg va by rw [hv, hva], show hv b = .agg vb by rw [hv, hvb]]
  obtain ⟨rv, hrv⟩ : ∃ rv, (bytesV (nodeH a b)).toArray = rv := ⟨_, rfl⟩
  have HS9 : Hid (rv.size = 32) := Lib.hid (by rw [← hrv]; simp [bytesV_length, nodeH_length])
  have HI9 : Hid ((Tryd.prog.info? 23).map (·.size) = some rv.size) := Lib.hid (by rw [HS9.out]; kernel_rfl)
  have ho9 : ∀ v ∈ rv.toList, v.oneCell' = true := by rw [← hrv]; exact bytesV_one _
  clear hK hsb2 hB0 hB1 ra0 ra1 rb0 hwc hwb hva hvb
  go_enter Tryd.func21, Tryd.ntmps21
  go_wp2_with fail
  rw [HWC.out]
  go_region_held3 (fun w' => w'.rangeAt w.heap.size 0 (bytesV a) ∧ w'.rangeAt (w.heap.size + 1) 0 (bytesV b)) (first | exact KK | exact ⟨rangeAt_below (Lib.below_setCells_w (B := w.heap.size + 1 + 1) (Nat.le_refl _) _ _ _) KK.1 (by omega), rangeAt_below (Lib.below_setCells_w (B := w.heap.size + 1 + 1) (Nat.le_refl _) _ _ _) KK.2 (by omega)⟩ | exact ⟨rangeAt_below ((Below.refl _ _).alloc (Nat.le_refl _) _) (by assumption) (by have := HSA.out; omega), rangeAt_below ((Below.refl _ _).alloc (Nat.le_refl _) _) (by assumption) (by have := HSA.out; omega)⟩ | go_keep) ((go_at_call 39; refine (sum_any (some ⟨wc.heap.size, 0, none⟩) 3 [⟨#[1]⟩, ⟨a.toArray⟩, ⟨b.toArray⟩] _ HT.out HL.out (by simp) (ktab_below HK.out (hBa.out.trans (HX.out.mono (by have := HSA.out; omega))) HKl.out)).mono ?_; rintro ev w3 ⟨rfl, hB3⟩; rw [HC.out, show hv (nodeH a b) = .agg rv by rw [hv, hrv]]; have KK := And.intro (rangeAt_below hB3 (rangeAt_below HX.out ra2 (by have := HSA.out; omega)) (by have := HSA.out; simp; omega)) (rangeAt_below hB3 (rangeAt_below HX.out rb2 (by have := HSA.out; omega)) (by have := HSA.out; simp; omega)); have hR3 := Lib.hid ((hRa.out.below HX.out (by have := HSA.out; omega)).below hB3 (by have := HSA.out; simp; omega)); have hth := hR3.out.there rv.toList.length (by simp [HS9.out])))
  go_wp2
  refine bodyPost_ret (v := .agg rv) (results_cell_row rfl _ _ (w.heap.size + 1 + 1) 23 rv (0, 0) _ rfl (heap_setCells_full w3 rv ((List.replicate 32 (0 : Int)).map (Value.int .u8)) hR3.out (by rw [HS9.out]; simp)) Tryd.underlying23 rfl HI9.out) rfl ⟨by rw [hv, hrv], ((hBa.out.trans (HX.out.mono (by have := HSA.out; omega))).trans (hB3.mono (by have := HSA.out; simp; omega))).trans (Lib.below_setCells_w (by omega) _ _ _)⟩
end Go.Proofs.YtnpblpbcchminaaDoor
