/- sha.Sum: SHA-256 of texts, one behind the other. Condition: the table reads as listed. -/
import Derived.Test.YtnpblpbcchminaaDoorShaSum
import Derived.Laws.IdiomStrings
namespace Go.Proofs.YtnpblpbcchminaaDoor
open Go.ChangeShapes Go.WideShapes Go.ChangeAt Go.RowKit
set_option linter.unusedVariables false
def bOf (s : ByteArray) : List UInt8 := s.data.toList
theorem bOf_length (s : ByteArray) : (bOf s).length = s.size := rfl
/-- texts, one behind the other -/
def catB (l : List ByteArray) : List UInt8 := l.flatMap bOf
/-- a list of texts reads as l -/
def TRd (w : World) (v : Value) (l : List ByteArray) : Prop :=
  ∃ A cap, v = .slice A l.length cap ∧ l.length ≤ cap ∧ (l = [] ∨ ∃ b o, A = some ⟨b, o, none⟩ ∧ w.rangeAt b o (l.map Value.string))
theorem TRd.below {w w' : World} {v : Value} {l : List ByteArray} (h : TRd w v l) (hb : Below w.heap.size w w') : TRd w' v l := by
  obtain ⟨A, cap, h1, h2, h3⟩ := h
  refine ⟨A, cap, h1, h2, ?_⟩
  rcases h3 with h3 | ⟨b, o, h3, h4⟩
  · exact .inl h3
  · by_cases hy : l = []
    · exact .inl hy
    · exact .inr ⟨b, o, h3, rangeAt_below hb h4 (rangeAt_lt h4 (by simpa using hy))⟩
theorem bytesRow_range (w : World) (s : ByteArray) (cap : Nat) (fr : Nat × Nat) : (w.alloc (.cells (bytesRow s cap) 5 fr)).rangeAt w.heap.size 0 (bytesV (bOf s)) := fun j v hj => by
  rw [Nat.zero_add, World.cell?_alloc_mark]
  have hlt : j < s.data.size := by have := (List.getElem?_eq_some_iff.1 hj).1; simpa [bytesV_length, bOf] using this
  rw [bytesRow_at s cap j hlt, ← hj]
  simp [bytesV, bOf, byteV, Array.getElem?_eq_getElem hlt]
theorem catB_snoc (l : List ByteArray) (i : Nat) (s : ByteArray) (h : l[i]? = some s) : catB (l.take (i + 1)) = catB (l.take i) ++ bOf s := by
  unfold catB; rw [List.take_add_one, h]; simp
theorem catB_take_le : ∀ (l : List ByteArray) (i : Nat), (catB (l.take i)).length ≤ (catB l).length
  | l, i => by
    have := congrArg catB (List.take_append_drop i l)
    unfold catB at this ⊢
    rw [List.flatMap_append] at this
    rw [← this, List.length_append]; omega
set_option maxRecDepth 100000 in
set_option maxHeartbeats 4000000 in
theorem sum_big (A : Option Addr) (cap : Nat) (ss : List ByteArray) (w : World) (hs : TRd w (.slice A ss.length cap) ss) (htot : (catB ss).length ≤ 9223372036854776000) (h63 : ∀ s ∈ ss, s.size ≤ 9223372036854775807) (hm : ss.length ≤ 1000000) (hK : KTab 17 w) :
    Calls Tryd.prog 39 #[.slice A ss.length cap] w fun ev w' => ev = .returned (hv (shaB (catB ss))) ∧ Below w.heap.size w w' := by
  have HS := Lib.hid hs
  have HK := Lib.hid hK
  have kb := fun (w : World) (s : ByteArray) => run_bytes_of_string (P := Tryd.prog) w 9 77 5 s Tryd.underlying9 Tryd.underlying77 Tryd.underlying5
  obtain ⟨m, hmm⟩ : ∃ m, ss.length = m := ⟨_, rfl⟩
  rw [hmm] at hm ⊢
  have HM := Lib.hid hmm
  have hBa : Hid (Below w.heap.size w (w.alloc (.cells (List.replicate 32 (Value.int .u8 0)).toArray 23))) := Lib.hid ((Below.refl _ _).alloc (Nat.le_refl _) _)
  have hRa : Hid (IRow (w.alloc (.cells (List.replicate 32 (Value.int .u8 0)).toArray 23)) w.heap.size .u8 23 (List.replicate 32 0)) := Lib.hid (irow_new _ _ _ _ (by simp))
  obtain ⟨wa, hwa⟩ : ∃ wa, w.alloc (.cells (List.replicate 32 (Value.int .u8 0)).toArray 23) = wa := ⟨_, rfl⟩
  have hsa : w.heap.size + 1 = wa.heap.size := by rw [← hwa]; simp
  rw [hwa] at hBa hRa
  simp only [List.replicate, List.toArray] at hwa
  have HSA := Lib.hid hsa
  have HKl : 17 < w.heap.size := hK.lt
  clear hs hK hmm hsa
  go_enter Tryd.func39, Tryd.ntmps39
  go_wp2_with fail
  refine (new_any _).mono ?_
  rintro ev w1 ⟨D, hb, rfl, hD1, hB1⟩
  have HD1 := Lib.hid (show ∃ q done rest rv, DigAt wa.heap.size D hb w1 (catB (ss.take 0)) q done rest rv from ⟨_, _, _, _, hD1⟩)
  have hD1l := hD1.dg.lt
  have HBD := Lib.hid (And.intro hD1.baseD hD1.baseH)
  have HB1 := Lib.hid (hBa.out.trans (hB1.mono (by have := HSA.out; omega)))
  have hs1 := hB1.size
  have HR1 := Lib.hid (hRa.out.below hB1 (by have := HSA.out; omega))
  clear hwa hD1 hB1
  go_wp2
  go_loopw [9] (fun c wr => ∃ i : Nat, i ≤ m ∧ c = .int .i64 i ∧ Hid (∃ q done rest rv, DigAt wa.heap.size D hb wr (catB (ss.take i)) q done rest rv) ∧ Hid (Below w.heap.size w wr) ∧ Hid (IRow wr w.heap.size .u8 23 (List.replicate 32 0)) ∧ wa.heap.size ≤ wr.heap.size) (fun c _ => m - (intOf c).toNat)
  case atStart => exact ⟨0, by omega, rfl, HD1, HB1, HR1, hs1⟩
  case round =>
    obtain ⟨i, hi, rfl, HD, HB, HR, hsr⟩ := hrel
    by_cases hlt : i < m
    · obtain ⟨s, hs⟩ : ∃ s, ss[i]? = some s := ⟨_, List.getElem?_eq_getElem (by rw [HM.out]; exact hlt)⟩
      have hne : ss ≠ [] := by intro e; rw [e] at hs; simp at hs
      obtain ⟨A', cap', hA, hc, h3⟩ := HS.out
      cases hA
      obtain ⟨g, o, rfl, hrng⟩ := h3.resolve_left hne
      have c0 : wr.cell? ⟨g, o + i, none⟩ = some (.string s) := by
        have h1 := hrng i (.string s) (by simp [hs])
        exact cell_below HB.out h1 (block_of_cell h1)
      have HCa := Lib.hid (catB_snoc ss i s hs)
      have HSM := Lib.hid hs
      have HLe := Lib.hid (catB_take_le ss (i + 1))
      have HC2 := Lib.hid hc
      clear hs hne hc h3 hrng
      have i0 : (0 : Int) ≤ i := by omega
      have i1 : (i : Int) < m := by omega
      have hsl : Hid (s.size ≤ 9223372036854775807) := Lib.hid (h63 s (List.mem_of_getElem? HSM.out))
      have hsx : Hid ((catB (ss.take i)).length ≤ 9223372036854776000) := Lib.hid (by have := catB_take_le ss i; omega)
      obtain ⟨q, done, rest, rv, hD⟩ := HD.out
      have HDl := Lib.hid hD.dg.lt
      have HOl := Lib.hid (fun k q => (hD.own.lt k q).2)
      obtain ⟨cp, hcp⟩ : ∃ cp, grownCap wr s.size 0 5 = cp := ⟨_, rfl⟩
      have hc1 : Hid (s.size ≤ cp) := Lib.hid (by rw [← hcp]; exact grownCap_ge _ _ _ _)
      have hc2 : Hid (cp ≤ 9223372036854775807) := Lib.hid (by have := grownCap_le_maxLen wr s.size 0 5 (by have := hsl.out; unfold maxLen; omega); rw [hcp] at this; unfold maxLen at this; exact this)
      have HX : Hid (Below wr.heap.size wr ((wr.alloc (.cells (bytesRow s cp) 5 ((bytesRow s cp).size, (bytesRow s cp).size + 1))).drew)) := Lib.hid (((Below.refl _ _).alloc (Nat.le_refl _) _).drew)
      have HXR : Hid (((wr.alloc (.cells (bytesRow s cp) 5 ((bytesRow s cp).size, (bytesRow s cp).size + 1))).drew).rangeAt wr.heap.size 0 (bytesV (bOf s))) := Lib.hid (bytesRow_range wr s cp _)
      have HXS : Hid (((wr.alloc (.cells (bytesRow s cp) 5 ((bytesRow s cp).size, (bytesRow s cp).size + 1))).drew).heap.size = wr.heap.size + 1) := Lib.hid (World.size_alloc _ _)
      have HCP := Lib.hid hcp
      have HD0 := Lib.hid hD
      clear hD hcp
      go_wp2_with fail
      rw [HCP.out]
      obtain ⟨wx, hwx⟩ : ∃ wx, (wr.alloc (.cells (bytesRow s cp) 5 ((bytesRow s cp).size, (bytesRow s cp).size + 1))).drew = wx := ⟨_, rfl⟩
      rw [hwx] at HX HXR HXS ⊢
      have WA0 := write_any wa.heap.size D hb wr.heap.size 0 cp q (catB (ss.take i)) (bOf s) done rest rv wx ⟨HD0.out.all, HD0.out.len, HD0.out.short, HD0.out.dg.below HX.out HDl.out.1 HDl.out.2, own_below HD0.out.own HX.out (Nat.le_refl _), HD0.out.far, HD0.out.baseD, HD0.out.baseH⟩ HXR.out (by rw [bOf_length]; exact hc1.out) hc2.out (by have := HDl.out.1; omega) (by have := HDl.out.2; omega) (fun q => by have := HOl.out _ q; omega) (by have := HXS.out; omega) (by rw [bOf_length]; have h1 := congrArg List.length HCa.out; rw [List.length_append, bOf_length] at h1; have := HLe.out; omega) (fun i hi => cell_below (HB.out.trans (HX.out.mono (by have := HSA.out; omega))) (HK.out i hi) HKl) (by have := HSA.out; omega)
      rw [bOf_length] at WA0
      refine WA0.mono ?_
      rintro ev w3 ⟨rfl, hD3, hB3⟩
      have hxs := HXS.out
      have hs3 := hB3.size
      go_wp2
      refine ⟨⟨i + 1, by omega, by go_num, by rw [HCa.out]; exact Lib.hid hD3, Lib.hid ((HB.out.trans (HX.out.mono (by have := HSA.out; omega))).trans (hB3.mono (by have := HSA.out; omega))), Lib.hid ((HR.out.below HX.out (by have := HSA.out; omega)).below hB3 (by have := HSA.out; omega)), by omega⟩, ?_⟩
      simp [intOf]; omega
    · obtain rfl : i = m := by omega
      have HT : Hid (catB (ss.take i) = catB ss) := Lib.hid (by rw [← HM.out, List.take_length])
      obtain ⟨q, done, rest, rv, hD⟩ := HD.out
      rw [HT.out] at hD
      have DS0 := digsum_any wa.heap.size D hb q (catB ss) done rest rv wr hD hsr htot (fun i hi => cell_below HB.out (HK.out i hi) HKl) (by have := HSA.out; omega)
      have DS := Lib.hid DS0
      clear DS0 hD
      go_wp2_with fail
      refine DS.out.mono ?_
      rintro ev w3 ⟨rfl, hB3⟩
      have HG : Hid (w3.heap[w.heap.size]? = some (.cells ((List.replicate 32 (0 : Int)).map (Value.int .u8)).toArray 23 (0, 0))) := Lib.hid (HR.out.below hB3 (by have := HSA.out; omega))
      obtain ⟨rv, hrv⟩ : ∃ rv, (bytesV (shaB (catB ss))).toArray = rv := ⟨_, rfl⟩
      have HS9 : Hid (rv.size = 32) := Lib.hid (by rw [← hrv]; simp [bytesV_length, shaB_length])
      have HI9 : Hid ((Tryd.prog.info? 23).map (·.size) = some rv.size) := Lib.hid (by rw [HS9.out]; kernel_rfl)
      have HO9 : Hid (rv.all (·.oneCell') = true) := Lib.hid (by rw [← hrv]; exact bytesV_all _)
      have HFin : Hid (Below w.heap.size w (w3.setRow w.heap.size rv)) := Lib.hid (below_setRow (HB.out.trans (hB3.mono (by have := HSA.out; omega))) _ _ (Nat.le_refl _))
      have HRV := Lib.hid hrv
      have hvv : hv (shaB (catB ss)) = .agg rv := by rw [hv, hrv]
      rw [hvv]
      clear hrv hB3
      go_wp2_with (refine wpList_store_row rfl 23 _ _ rfl w.heap.size rv rfl rfl 23 _ HG.out HI9.out (by rw [HS9.out]; simp) HO9.out ?_)
      refine bodyPost_ret (v := .agg rv) (results_cell_row rfl _ _ w.heap.size 23 rv (0, 0) _ rfl (setRow_heap _ _ _ _ _ _ HG.out) Tryd.underlying23 rfl HI9.out) rfl ⟨by rw [hvv], HFin.out⟩
theorem catB_mem : ∀ (l : List ByteArray), ∀ s ∈ l, s.size ≤ (catB l).length
  | [], s, h => by simp at h
  | x :: l, s, h => by
    have e : (catB (x :: l)).length = x.size + (catB l).length := by simp [catB, bOf_length]
    rcases List.mem_cons.1 h with rfl | q
    · omega
    · have := catB_mem l s q; omega
theorem sum_any (A : Option Addr) (cap : Nat) (ss : List ByteArray) (w : World) (hs : TRd w (.slice A ss.length cap) ss) (htot : (catB ss).length ≤ 140737488355328) (hm : ss.length ≤ 1000000) (hK : KTab 17 w) :
    Calls Tryd.prog 39 #[.slice A ss.length cap] w fun ev w' => ev = .returned (hv (shaB (catB ss))) ∧ Below w.heap.size w w' :=
  sum_big A cap ss w hs (by omega) (fun s h => by have := catB_mem ss s h; omega) hm hK
end Go.Proofs.YtnpblpbcchminaaDoor
