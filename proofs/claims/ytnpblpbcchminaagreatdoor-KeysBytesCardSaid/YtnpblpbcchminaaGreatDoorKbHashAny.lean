import Derived.Test.YtnpblpbcchminaaGreatDoorKbShaSum
import Derived.Laws.IdiomStrings
import Derived.Lib.EndianMore
/- sha.Sum: SHA-256 of texts, one behind the other. Condition: the table reads as listed. -/
namespace Go.Proofs.YtnpblpbcchminaaGreatDoor
open Go.ChangeShapes Go.WideShapes Go.ChangeAt Go.RowKit
set_option linter.unusedVariables false
def bOf (s : ByteArray) : List UInt8 := s.data.toList
theorem bOf_length (s : ByteArray) : (bOf s).length = s.size := rfl
/-- texts, one behind the other -/
def catB (l : List ByteArray) : List UInt8 := l.flatMap bOf
/-- a list of texts reads as l -/
def TRd (w : World) (v : Value) (l : List ByteArray) : Prop :=
  ∃ A cap, v = .slice A l.length cap ∧ l.length ≤ cap ∧ (l = [] ∨ ∃ b o, A = some ⟨b, o, none⟩ ∧ w.rangeAt b o (l.map Value.string))
theorem TRd.below {w w' : World} {v : Value} {l : List ByteArray} (h : TRd w v l) (hb : Below w.heap.size w w') : TRd w' v l := by
  obtain ⟨A, cap, h1, h2, h3⟩ := h
  refine ⟨A, cap, h1, h2, ?_⟩
  rcases h3 with h3 | ⟨b, o, h3, h4⟩
  · exact .inl h3
  · by_cases hy : l = []
    · exact .inl hy
    · exact .inr ⟨b, o, h3, rangeAt_below hb h4 (rangeAt_lt h4 (by simpa using hy))⟩
theorem bytesRow_range (w : World) (s : ByteArray) (cap : Nat) (fr : Nat × Nat) : (w.alloc (.cells (bytesRow s cap) 5 fr)).rangeAt w.heap.size 0 (bytesV (bOf s)) := fun j v hj => by
  rw [Nat.zero_add, World.cell?_alloc_mark]
  have hlt : j < s.data.size := by have := (List.getElem?_eq_some_iff.1 hj).1; simpa [bytesV_length, bOf] using this
  rw [bytesRow_at s cap j hlt, ← hj]
  simp [bytesV, bOf, byteV, Array.getElem?_eq_getElem hlt]
theorem catB_snoc (l : List ByteArray) (i : Nat) (s : ByteArray) (h : l[i]? = some s) : catB (l.take (i + 1)) = catB (l.take i) ++ bOf s := by
  unfold catB; rw [List.take_add_one, h]; simp
theorem catB_take_le : ∀ (l : List ByteArray) (i : Nat), (catB (l.take i)).length ≤ (catB l).length
  | l, i => by
    have := congrArg catB (List.take_append_drop i l)
    unfold catB at this ⊢
    rw [List.flatMap_append] at this
    rw [← this, List.length_append]; omega
set_option maxRecDepth 100000 in
set_option maxHeartbeats 4000000 in
theorem sum_big (A : Option Addr) (cap : Nat) (ss : List ByteArray) (w : World) (hs : TRd w (.slice A ss.length cap) ss) (htot : (catB ss).length ≤ 9223372036854776000) (h63 : ∀ s ∈ ss, s.size ≤ 9223372036854775807) (hm : ss.length ≤ 1000000) (hK : KTab 17 w) :
    Calls Tryz.prog 123 #[.slice A ss.length cap] w fun ev w' => ev = .returned (hv (shaB (catB ss))) ∧ Below w.heap.size w w' := by
  have HS := Lib.hid hs
  have HK := Lib.hid hK
  have kb := fun (w : World) (s : ByteArray) => run_bytes_of_string (P := Tryz.prog) w 9 138 5 s Tryz.underlying9 Tryz.underlying138 Tryz.underlying5
  obtain ⟨m, hmm⟩ : ∃ m, ss.length = m := ⟨_, rfl⟩
  rw [hmm] at hm ⊢
  have HM := Lib.hid hmm
  have hBa : Hid (Below w.heap.size w (w.alloc (.cells (List.replicate 32 (Value.int .u8 0)).toArray 23))) := Lib.hid ((Below.refl _ _).alloc (Nat.le_refl _) _)
  have hRa : Hid (IRow (w.alloc (.cells (List.replicate 32 (Value.int .u8 0)).toArray 23)) w.heap.size .u8 23 (List.replicate 32 0)) := Lib.hid (irow_new _ _ _ _ (by simp))
  obtain ⟨wa, hwa⟩ : ∃ wa, w.alloc (.cells (List.replicate 32 (Value.int .u8 0)).toArray 23) = wa := ⟨_, rfl⟩
  have hsa : w.heap.size + 1 = wa.heap.size := by rw [← hwa]; simp
  rw [hwa] at hBa hRa
  simp only [List.replicate, List.toArray] at hwa
  have HSA := Lib.hid hsa
  have HKl : 17 < w.heap.size := hK.lt
  clear hs hK hmm hsa
  go_enter Tryz.func123, Tryz.ntmps123
  go_wp2_with fail
  refine (new_any _).mono ?_
  rintro ev w1 ⟨D, hb, rfl, hD1, hB1⟩
  have HD1 := Lib.hid (show ∃ q done rest rv, DigAt wa.heap.size D hb w1 (catB (ss.take 0)) q done rest rv from ⟨_, _, _, _, hD1⟩)
  have hD1l := hD1.dg.lt
  have HBD := Lib.hid (And.intro hD1.baseD hD1.baseH)
  have HB1 := Lib.hid (hBa.out.trans (hB1.mono (by have := HSA.out; omega)))
  have hs1 := hB1.size
  have HR1 := Lib.hid (hRa.out.below hB1 (by have := HSA.out; omega))
  clear hwa hD1 hB1
  go_wp2
  go_loopw [9] (fun c wr => ∃ i : Nat, i ≤ m ∧ c = .int .i64 i ∧ Hid (∃ q done rest rv, DigAt wa.heap.size D hb wr (catB (ss.take i)) q done rest rv) ∧ Hid (Below w.heap.size w wr) ∧ Hid (IRow wr w.heap.size .u8 23 (List.replicate 32 0)) ∧ wa.heap.size ≤ wr.heap.size) (fun c _ => m - (intOf c).toNat)
  case atStart => exact ⟨0, by omega, rfl, HD1, HB1, HR1, hs1⟩
  case round =>
    obtain ⟨i, hi, rfl, HD, HB, HR, hsr⟩ := hrel
    by_cases hlt : i < m
    · obtain ⟨s, hs⟩ : ∃ s, ss[i]? = some s := ⟨_, List.getElem?_eq_getElem (by rw [HM.out]; exact hlt)⟩
      have hne : ss ≠ [] := by intro e; rw [e] at hs; simp at hs
      obtain ⟨A', cap', hA, hc, h3⟩ := HS.out
      cases hA
      obtain ⟨g, o, rfl, hrng⟩ := h3.resolve_left hne
      have c0 : wr.cell? ⟨g, o + i, none⟩ = some (.string s) := by
        have h1 := hrng i (.string s) (by simp [hs])
        exact cell_below HB.out h1 (block_of_cell h1)
      have HCa := Lib.hid (catB_snoc ss i s hs)
      have HSM := Lib.hid hs
      have HLe := Lib.hid (catB_take_le ss (i + 1))
      have HC2 := Lib.hid hc
      clear hs hne hc h3 hrng
      have i0 : (0 : Int) ≤ i := by omega
      have i1 : (i : Int) < m := by omega
      have hsl : Hid (s.size ≤ 9223372036854775807) := Lib.hid (h63 s (List.mem_of_getElem? HSM.out))
      have hsx : Hid ((catB (ss.take i)).length ≤ 9223372036854776000) := Lib.hid (by have := catB_take_le ss i; omega)
      obtain ⟨q, done, rest, rv, hD⟩ := HD.out
      have HDl := Lib.hid hD.dg.lt
      have HOl := Lib.hid (fun k q => (hD.own.lt k q).2)
      obtain ⟨cp, hcp⟩ : ∃ cp, grownCap wr s.size 0 5 = cp := ⟨_, rfl⟩
      have hc1 : Hid (s.size ≤ cp) := Lib.hid (by rw [← hcp]; exact grownCap_ge _ _ _ _)
      have hc2 : Hid (cp ≤ 9223372036854775807) := Lib.hid (by have := grownCap_le_maxLen wr s.size 0 5 (by have := hsl.out; unfold maxLen; omega); rw [hcp] at this; unfold maxLen at this; exact this)
      have HX : Hid (Below wr.heap.size wr ((wr.alloc (.cells (bytesRow s cp) 5 ((bytesRow s cp).size, (bytesRow s cp).size + 1))).drew)) := Lib.hid (((Below.refl _ _).alloc (Nat.le_refl _) _).drew)
      have HXR : Hid (((wr.alloc (.cells (bytesRow s cp) 5 ((bytesRow s cp).size, (bytesRow s cp).size + 1))).drew).rangeAt wr.heap.size 0 (bytesV (bOf s))) := Lib.hid (bytesRow_range wr s cp _)
      have HXS : Hid (((wr.alloc (.cells (bytesRow s cp) 5 ((bytesRow s cp).size, (bytesRow s cp).size + 1))).drew).heap.size = wr.heap.size + 1) := Lib.hid (World.size_alloc _ _)
      have HCP := Lib.hid hcp
      have HD0 := Lib.hid hD
      clear hD hcp
      go_wp2_with fail
      rw [HCP.out]
      obtain ⟨wx, hwx⟩ : ∃ wx, (wr.alloc (.cells (bytesRow s cp) 5 ((bytesRow s cp).size, (bytesRow s cp).size + 1))).drew = wx := ⟨_, rfl⟩
      rw [hwx] at HX HXR HXS ⊢
      have WA0 := write_any wa.heap.size D hb wr.heap.size 0 cp q (catB (ss.take i)) (bOf s) done rest rv wx ⟨HD0.out.all, HD0.out.len, HD0.out.short, HD0.out.dg.below HX.out HDl.out.1 HDl.out.2, own_below HD0.out.own HX.out (Nat.le_refl _), HD0.out.far, HD0.out.baseD, HD0.out.baseH⟩ HXR.out (by rw [bOf_length]; exact hc1.out) hc2.out (by have := HDl.out.1; omega) (by have := HDl.out.2; omega) (fun q => by have := HOl.out _ q; omega) (by have := HXS.out; omega) (by rw [bOf_length]; have h1 := congrArg List.length HCa.out; rw [List.length_append, bOf_length] at h1; have := HLe.out; omega) (fun i hi => cell_below (HB.out.trans (HX.out.mono (by have := HSA.out; omega))) (HK.out i hi) HKl) (by have := HSA.out; omega)
      rw [bOf_length] at WA0
      refine WA0.mono ?_
      rintro ev w3 ⟨rfl, hD3, hB3⟩
      have hxs := HXS.out
      have hs3 := hB3.size
      go_wp2
      refine ⟨⟨i + 1, by omega, by go_num, by rw [HCa.out]; exact Lib.hid hD3, Lib.hid ((HB.out.trans (HX.out.mono (by have := HSA.out; omega))).trans (hB3.mono (by have := HSA.out; omega))), Lib.hid ((HR.out.below HX.out (by have := HSA.out; omega)).below hB3 (by have := HSA.out; omega)), by omega⟩, ?_⟩
      simp [intOf]; omega
    · obtain rfl : i = m := by omega
      have HT : Hid (catB (ss.take i) = catB ss) := Lib.hid (by rw [← HM.out, List.take_length])
      obtain ⟨q, done, rest, rv, hD⟩ := HD.out
      rw [HT.out] at hD
      have DS0 := digsum_any wa.heap.size D hb q (catB ss) done rest rv wr hD hsr htot (fun i hi => cell_below HB.out (HK.out i hi) HKl) (by have := HSA.out; omega)
      have DS := Lib.hid DS0
      clear DS0 hD
      go_wp2_with fail
      refine DS.out.mono ?_
      rintro ev w3 ⟨rfl, hB3⟩
      have HG : Hid (w3.heap[w.heap.size]? = some (.cells ((List.replicate 32 (0 : Int)).map (Value.int .u8)).toArray 23 (0, 0))) := Lib.hid (HR.out.below hB3 (by have := HSA.out; omega))
      obtain ⟨rv, hrv⟩ : ∃ rv, (bytesV (shaB (catB ss))).toArray = rv := ⟨_, rfl⟩
      have HS9 : Hid (rv.size = 32) := Lib.hid (by rw [← hrv]; simp [bytesV_length, shaB_length])
      have HI9 : Hid ((Tryz.prog.info? 23).map (·.size) = some rv.size) := Lib.hid (by rw [HS9.out]; kernel_rfl)
      have HO9 : Hid (rv.all (·.oneCell') = true) := Lib.hid (by rw [← hrv]; exact bytesV_all _)
      have HFin : Hid (Below w.heap.size w (w3.setRow w.heap.size rv)) := Lib.hid (below_setRow (HB.out.trans (hB3.mono (by have := HSA.out; omega))) _ _ (Nat.le_refl _))
      have HRV := Lib.hid hrv
      have hvv : hv (shaB (catB ss)) = .agg rv := by rw [hv, hrv]
      rw [hvv]
      clear hrv hB3
      go_wp2_with (refine wpList_store_row rfl 23 _ _ rfl w.heap.size rv rfl rfl 23 _ HG.out HI9.out (by rw [HS9.out]; simp) HO9.out ?_)
      refine bodyPost_ret (v := .agg rv) (results_cell_row rfl _ _ w.heap.size 23 rv (0, 0) _ rfl (setRow_heap _ _ _ _ _ _ HG.out) Tryz.underlying23 rfl HI9.out) rfl ⟨by rw [hvv], HFin.out⟩
theorem catB_mem : ∀ (l : List ByteArray), ∀ s ∈ l, s.size ≤ (catB l).length
  | [], s, h => by simp at h
  | x :: l, s, h => by
    have e : (catB (x :: l)).length = x.size + (catB l).length := by simp [catB, bOf_length]
    rcases List.mem_cons.1 h with rfl | q
    · omega
    · have := catB_mem l s q; omega
theorem sum_any (A : Option Addr) (cap : Nat) (ss : List ByteArray) (w : World) (hs : TRd w (.slice A ss.length cap) ss) (htot : (catB ss).length ≤ 140737488355328) (hm : ss.length ≤ 1000000) (hK : KTab 17 w) :
    Calls Tryz.prog 123 #[.slice A ss.length cap] w fun ev w' => ev = .returned (hv (shaB (catB ss))) ∧ Below w.heap.size w w' :=
  sum_big A cap ss w hs (by omega) (fun s h => by have := catB_mem ss s h; omega) hm hK
end Go.Proofs.YtnpblpbcchminaaGreatDoor
/- hash.Leaf, hash.Node, hash.Empty. Condition: the table reads as listed. -/
namespace Go.Proofs.YtnpblpbcchminaaGreatDoor
open Go.ChangeShapes Go.WideShapes Go.ChangeAt Go.RowKit
set_option linter.unusedVariables false
def leafH (s : ByteArray) : List UInt8 := shaB (0 :: bOf s)
def nodeH (a b : List UInt8) : List UInt8 := shaB (1 :: (a ++ b))
theorem leafH_length (s : ByteArray) : (leafH s).length = 32 := shaB_length _
theorem nodeH_length (a b : List UInt8) : (nodeH a b).length = 32 := shaB_length _
theorem leafH_eq (s : ByteArray) : leafH s = shaB (0 :: bOf s) := rfl
theorem nodeH_eq (a b : List UInt8) : nodeH a b = shaB (1 :: (a ++ b)) := rfl
attribute [irreducible] leafH nodeH
theorem ktab_below {B : Nat} {w w' : World} (h : KTab 17 w) (hb : Below B w w') (hlt : 17 < B) : KTab 17 w' := fun i hi => cell_below hb (h i hi) hlt
theorem trd_new (w : World) (b n : Nat) (l : List ByteArray) (r : Array Value) (fr : Nat × Nat) (hb : b = w.heap.size) (hn : l.length = n) (hr : r = (l.map Value.string).toArray) : TRd (w.alloc (.cells r 9 fr)) (.slice (some ⟨b, 0, none⟩) n n) l := by
  subst hb hn hr
  refine ⟨_, _, rfl, Nat.le_refl _, .inr ⟨_, _, rfl, fun j v hj => ?_⟩⟩
  rw [Nat.zero_add, World.cell?_alloc_mark]
  simpa using hj
theorem rangeAt_new (w : World) (v : Array Value) (t : TypeId) (a : List UInt8) (h : (bytesV a).toArray = v) : (w.alloc (.cells v t)).rangeAt w.heap.size 0 (bytesV a) := by
  subst h
  intro j v hj
  rw [Nat.zero_add, World.cell?_alloc_mark]
  simpa using hj
set_option maxRecDepth 100000 in
set_option maxHeartbeats 4000000 in
theorem hleaf_any (s : ByteArray) (w : World) (hs : s.size ≤ 100000000000) (hK : KTab 17 w) :
    Calls Tryz.prog 126 #[.string s] w fun ev w' => ev = .returned (hv (leafH s)) ∧ Below w.heap.size w w' := by
  have HK := Lib.hid hK
  have HKl := Lib.hid hK.lt
  have HN := Lib.hid (show (bOf s).length ≤ 100000000000 by rw [bOf_length]; omega)
  have hBa : Hid (Below w.heap.size w (w.alloc (.cells (List.replicate 32 (Value.int .u8 0)).toArray 23))) := Lib.hid ((Below.refl _ _).alloc (Nat.le_refl _) _)
  have hRa : Hid (IRow (w.alloc (.cells (List.replicate 32 (Value.int .u8 0)).toArray 23)) w.heap.size .u8 23 (List.replicate 32 0)) := Lib.hid (irow_new _ _ _ _ (by simp))
  obtain ⟨wa, hwa⟩ : ∃ wa, w.alloc (.cells (List.replicate 32 (Value.int .u8 0)).toArray 23) = wa := ⟨_, rfl⟩
  have hsa : w.heap.size + 1 = wa.heap.size := by rw [← hwa]; simp
  rw [hwa] at hBa hRa
  simp only [List.replicate, List.toArray] at hwa
  have HSA := Lib.hid hsa
  have HX : Hid (Below wa.heap.size wa (wa.alloc (.cells #[.string ⟨#[0]⟩, .string s] 9))) := Lib.hid ((Below.refl _ _).alloc (Nat.le_refl _) _)
  have HT : Hid (TRd (wa.alloc (.cells #[.string ⟨#[0]⟩, .string s] 9)) (.slice (some ⟨wa.heap.size, 0, none⟩) 2 2) [⟨#[0]⟩, s]) := Lib.hid (trd_new wa _ 2 _ _ _ rfl rfl rfl)
  have HC : Hid (shaB (catB [⟨#[0]⟩, s]) = leafH s) := Lib.hid (by rw [leafH_eq]; simp [catB, bOf])
  have HL : Hid ((catB [⟨#[0]⟩, s]).length ≤ 140737488355328) := Lib.hid (by have := HN.out; simp [catB]; rw [show (bOf ⟨#[0]⟩).length = 1 from rfl]; omega)
  clear hs hK hsa
  go_enter Tryz.func126, Tryz.ntmps126
  go_wp2_with fail
  try rw [HSA.out]
  refine (sum_any (some ⟨wa.heap.size, 0, none⟩) 2 [⟨#[0]⟩, s] (wa.alloc (.cells #[.string ⟨#[0]⟩, .string s] 9)) HT.out HL.out (by simp) (ktab_below HK.out (hBa.out.trans (HX.out.mono (by have := HSA.out; omega))) HKl.out)).mono ?_
  clear hwa
  rintro ev w3 ⟨rfl, hB3⟩
  have HG : Hid (w3.heap[w.heap.size]? = some (.cells ((List.replicate 32 (0 : Int)).map (Value.int .u8)).toArray 23 (0, 0))) := Lib.hid ((hRa.out.below HX.out (by have := HSA.out; omega)).below hB3 (by have := HSA.out; try simp; omega))
  obtain ⟨rv, hrv⟩ : ∃ rv, (bytesV (shaB (catB [⟨#[0]⟩, s]))).toArray = rv := ⟨_, rfl⟩
  have HS9 : Hid (rv.size = 32) := Lib.hid (by rw [← hrv]; simp [bytesV_length, shaB_length])
  have HI9 : Hid ((Tryz.prog.info? 23).map (·.size) = some rv.size) := Lib.hid (by rw [HS9.out]; kernel_rfl)
  have HO9 : Hid (rv.all (·.oneCell') = true) := Lib.hid (by rw [← hrv]; exact bytesV_all _)
  have HFin : Hid (Below w.heap.size w (w3.setRow w.heap.size rv)) := Lib.hid (below_setRow ((hBa.out.trans (HX.out.mono (by have := HSA.out; omega))).trans (hB3.mono (by have := HSA.out; try simp; omega))) _ _ (Nat.le_refl _))
  have hvv : hv (shaB (catB [⟨#[0]⟩, s])) = .agg rv := by rw [hv, hrv]
  rw [hvv]
  clear hrv hB3
  go_wp2_with (refine wpList_store_row rfl 23 _ _ rfl w.heap.size rv rfl rfl 23 _ HG.out HI9.out (by rw [HS9.out]; simp) HO9.out ?_)
  refine bodyPost_ret (v := .agg rv) (results_cell_row rfl _ _ w.heap.size 23 rv (0, 0) _ rfl (setRow_heap _ _ _ _ _ _ HG.out) Tryz.underlying23 rfl HI9.out) rfl ⟨by rw [← hvv, HC.out], HFin.out⟩

theorem heap_setCells_at {g t : Nat} : ∀ (vs : List Value) (o : Nat) (w : World) (cs : List Value), w.heap[g]? = some (.cells cs.toArray t (0, 0)) → (w.setCells g o vs).heap[g]? = some (.cells (setAll cs o vs).toArray t (0, 0))
  | [], _, _, _, h => h
  | v :: r, o, w, cs, h => by
    rw [World.setCells, setAll]
    refine heap_setCells_at r (o + 1) _ _ ?_
    rw [heap_setCell_same w g o _ t _ h]
    simp
theorem setAll_full (cs vs : List Value) (h : vs.length = cs.length) : setAll cs 0 vs = vs := by
  refine List.ext_getElem? fun q => ?_
  by_cases hq : q < vs.length
  · have := setAll_at vs cs 0 q _ (by omega) (List.getElem?_eq_getElem hq)
    rw [Nat.zero_add] at this
    rw [this, List.getElem?_eq_getElem hq]
  · rw [List.getElem?_eq_none (by rw [setAll_length]; omega), List.getElem?_eq_none (by omega)]
theorem heap_setCells_full {g t : Nat} (w : World) (rv : Array Value) (cs : List Value) (h : w.heap[g]? = some (.cells cs.toArray t (0, 0))) (hl : rv.size = cs.length) : (w.setCells g 0 rv.toList).heap[g]? = some (.cells rv t (0, 0)) := by
  rw [heap_setCells_at _ _ _ _ h, setAll_full _ _ (by simpa using hl)]
theorem IRow.there {w : World} {b : Nat} {k : IntKind} {t : TypeId} {xs : List Int} (h : IRow w b k t xs) (n : Nat) (hn : n = xs.length) : w.there b 0 n := fun j hj => by
  rw [Nat.zero_add]
  exact ⟨by rw [h.cell (List.getElem?_eq_getElem (by omega))]; rfl, h.frozen j⟩
theorem bytes_back (w : World) (g o n : Nat) (l : List UInt8) (hn : l.length = n) (h : w.rangeAt g o (bytesV l)) : (convert 138 9 (.slice (some ⟨g, o, none⟩) n n)).run Tryz.prog w = .ok (.string ⟨l.toArray⟩) w := by
  subst hn
  refine run_convert_bytes_back w 138 9 5 ⟨g, o, none⟩ l.length l Tryz.underlying138 Tryz.underlying5 Tryz.underlying9 (fun j hj => ?_)
  exact range_add h j _ (bytesV_get (List.getElem?_eq_getElem hj))
set_option maxRecDepth 100000 in
set_option maxHeartbeats 4000000 in
theorem hnode_any (a b : List UInt8) (w : World) (ha : a.length = 32) (hb : b.length = 32) (hK : KTab 17 w) :
    Calls Tryz.prog 46 #[hv a, hv b] w fun ev w' => ev = .returned (hv (nodeH a b)) ∧ Below w.heap.size w w' := by
  have HK := Lib.hid hK
  have HKl := Lib.hid hK.lt
  obtain ⟨va, hva⟩ : ∃ va, (bytesV a).toArray = va := ⟨_, rfl⟩
  obtain ⟨vb, hvb⟩ : ∃ vb, (bytesV b).toArray = vb := ⟨_, rfl⟩
  have hsa : va.size = 32 := by rw [← hva]; simp [bytesV_length, ha]
  have hsb : vb.size = 32 := by rw [← hvb]; simp [bytesV_length, hb]
  have hia : (Tryz.prog.info? 23).map (·.size) = some va.size := by rw [hsa]; kernel_rfl
  have hib : (Tryz.prog.info? 23).map (·.size) = some vb.size := by rw [hsb]; kernel_rfl
  have hoa : va.all (·.oneCell') = true := by rw [← hva]; exact bytesV_all _
  have hob : vb.all (·.oneCell') = true := by rw [← hvb]; exact bytesV_all _
  have ra0 := rangeAt_new w va 23 a hva
  have rb0 := rangeAt_new (w.alloc (.cells va 23)) vb 23 b hvb
  obtain ⟨wb, hwb⟩ : ∃ wb, (w.alloc (.cells va 23)).alloc (.cells vb 23) = wb := ⟨_, rfl⟩
  have hB1 : Below (w.alloc (.cells va 23)).heap.size (w.alloc (.cells va 23)) wb := by rw [← hwb]; exact (Below.refl _ _).alloc (Nat.le_refl _) _
  have hB0 : Below w.heap.size w wb := by rw [← hwb]; exact ((Below.refl _ _).alloc (Nat.le_refl _) _).alloc (by simp) _
  have hsb2 : wb.heap.size = w.heap.size + 1 + 1 := by rw [← hwb]; simp
  rw [hwb] at rb0
  rw [World.size_alloc] at rb0 hB1
  have ra1 := rangeAt_below hB1 ra0 (by omega)
  have hBa : Hid (Below w.heap.size w (wb.alloc (.cells (List.replicate 32 (Value.int .u8 0)).toArray 23))) := Lib.hid (hB0.alloc (by omega) _)
  have hRa : Hid (IRow (wb.alloc (.cells (List.replicate 32 (Value.int .u8 0)).toArray 23)) wb.heap.size .u8 23 (List.replicate 32 0)) := Lib.hid (irow_new _ _ _ _ (by simp))
  have ra2 := rangeAt_below ((Below.refl _ wb).alloc (Nat.le_refl _) (.cells (List.replicate 32 (Value.int .u8 0)).toArray 23)) ra1 (by omega)
  have rb2 := rangeAt_below ((Below.refl _ wb).alloc (Nat.le_refl _) (.cells (List.replicate 32 (Value.int .u8 0)).toArray 23)) rb0 (by omega)
  obtain ⟨wc, hwc⟩ : ∃ wc, wb.alloc (.cells (List.replicate 32 (Value.int .u8 0)).toArray 23) = wc := ⟨_, rfl⟩
  have HSA := Lib.hid (show w.heap.size + 1 + 1 + 1 = wc.heap.size by rw [← hwc]; simp [hsb2])
  rw [hwc, hsb2] at hRa
  rw [hwc] at hBa ra2 rb2
  rw [← hwb] at hwc
  simp only [List.replicate, List.toArray] at hwc
  have kb1 := fun (w' : World) (h : w'.rangeAt w.heap.size 0 (bytesV a)) => bytes_back w' w.heap.size 0 32 a ha h
  have kb2 := fun (w' : World) (h : w'.rangeAt (w.heap.size + 1) 0 (bytesV b)) => bytes_back w' (w.heap.size + 1) 0 32 b hb h
  have HX : Hid (Below wc.heap.size wc ((wc.alloc (.cells #[.string ⟨#[1]⟩, .string ⟨a.toArray⟩, .string ⟨b.toArray⟩] 9)).drew)) := Lib.hid (((Below.refl _ _).alloc (Nat.le_refl _) _).drew)
  have HT : Hid (TRd ((wc.alloc (.cells #[.string ⟨#[1]⟩, .string ⟨a.toArray⟩, .string ⟨b.toArray⟩] 9)).drew) (.slice (some ⟨wc.heap.size, 0, none⟩) 3 3) [⟨#[1]⟩, ⟨a.toArray⟩, ⟨b.toArray⟩]) := Lib.hid ((trd_new wc _ 3 _ _ (0, 0) rfl rfl rfl).below ((Below.refl _ _).drew))
  have HC : Hid (shaB (catB [⟨#[1]⟩, ⟨a.toArray⟩, ⟨b.toArray⟩]) = nodeH a b) := Lib.hid (by rw [nodeH_eq]; simp [catB, bOf])
  have HL : Hid ((catB [⟨#[1]⟩, ⟨a.toArray⟩, ⟨b.toArray⟩]).length ≤ 140737488355328) := Lib.hid (by simp [catB, bOf, ha, hb])
  have HWC := Lib.hid hwc
  have HVA := Lib.hid (And.intro hva hvb)
  rw [show hv a = .agg va by rw [hv, hva], show hv b = .agg vb by rw [hv, hvb]]
  obtain ⟨rv, hrv⟩ : ∃ rv, (bytesV (nodeH a b)).toArray = rv := ⟨_, rfl⟩
  have HS9 : Hid (rv.size = 32) := Lib.hid (by rw [← hrv]; simp [bytesV_length, nodeH_length])
  have HI9 : Hid ((Tryz.prog.info? 23).map (·.size) = some rv.size) := Lib.hid (by rw [HS9.out]; kernel_rfl)
  have ho9 : ∀ v ∈ rv.toList, v.oneCell' = true := by rw [← hrv]; exact bytesV_one _
  clear hK hsb2 hB0 hB1 ra0 ra1 rb0 hwc hwb hva hvb
  go_enter Tryz.func46, Tryz.ntmps46
  go_wp2_with fail
  rw [HWC.out]
  go_region_held3 (fun w' => w'.rangeAt w.heap.size 0 (bytesV a) ∧ w'.rangeAt (w.heap.size + 1) 0 (bytesV b)) (first | exact KK | exact ⟨rangeAt_below (Lib.below_setCells_w (B := w.heap.size + 1 + 1) (Nat.le_refl _) _ _ _) KK.1 (by omega), rangeAt_below (Lib.below_setCells_w (B := w.heap.size + 1 + 1) (Nat.le_refl _) _ _ _) KK.2 (by omega)⟩ | exact ⟨rangeAt_below ((Below.refl _ _).alloc (Nat.le_refl _) _) (by assumption) (by have := HSA.out; omega), rangeAt_below ((Below.refl _ _).alloc (Nat.le_refl _) _) (by assumption) (by have := HSA.out; omega)⟩ | go_keep) ((go_at_call 123; refine (sum_any (some ⟨wc.heap.size, 0, none⟩) 3 [⟨#[1]⟩, ⟨a.toArray⟩, ⟨b.toArray⟩] _ HT.out HL.out (by simp) (ktab_below HK.out (hBa.out.trans (HX.out.mono (by have := HSA.out; omega))) HKl.out)).mono ?_; rintro ev w3 ⟨rfl, hB3⟩; rw [HC.out, show hv (nodeH a b) = .agg rv by rw [hv, hrv]]; have KK := And.intro (rangeAt_below hB3 (rangeAt_below HX.out ra2 (by have := HSA.out; omega)) (by have := HSA.out; simp; omega)) (rangeAt_below hB3 (rangeAt_below HX.out rb2 (by have := HSA.out; omega)) (by have := HSA.out; simp; omega)); have hR3 := Lib.hid ((hRa.out.below HX.out (by have := HSA.out; omega)).below hB3 (by have := HSA.out; simp; omega)); have hth := hR3.out.there rv.toList.length (by simp [HS9.out])))
  go_wp2
  refine bodyPost_ret (v := .agg rv) (results_cell_row rfl _ _ (w.heap.size + 1 + 1) 23 rv (0, 0) _ rfl (heap_setCells_full w3 rv ((List.replicate 32 (0 : Int)).map (Value.int .u8)) hR3.out (by rw [HS9.out]; simp)) Tryz.underlying23 rfl HI9.out) rfl ⟨by rw [hv, hrv], ((hBa.out.trans (HX.out.mono (by have := HSA.out; omega))).trans (hB3.mono (by have := HSA.out; simp; omega))).trans (Lib.below_setCells_w (by omega) _ _ _)⟩
end Go.Proofs.YtnpblpbcchminaaGreatDoor
