import Derived.Test.YtdodfeoaioolnaaDoorMthFns
import Derived.BigRegion
import Derived.Deep.DeepCutAuto
import Derived.Deep.RegionHeld
import Derived.Deep.MidRow
import Derived.Test.YtdodfeoaioolnaaDoorLaw15Batch
/- cartularylaw15.folded: the hash of a part. Condition: the package-level variables read as listed. -/
namespace Go.Proofs.YtdodfeoaioolnaaDoor
open Go.ChangeShapes Go.WideShapes Go.ChangeAt Go.RowKit
set_option linter.unusedVariables false
theorem span_nat (c : Nat × Nat) (size : Nat) (w : World) (hc : InLog size c) (hs : size ≤ 9223372036854775808) :
    Calls Tryd.prog 50 #[.agg #[.int .u8 (c.1 : Int), .int .u64 (c.2 : Int)]] w fun ev w' => ev = .returned (.tuple #[.agg #[.int .u64 ((c.2 * 2 ^ c.1 : Nat) : Int), .int .u64 (((c.2 + 1) * 2 ^ c.1 : Nat) : Int)], .bool true]) ∧ Below w.heap.size w w' := by
  have h1 := hc.1
  have h2 := hc.2
  have eP : (2 : Int) ^ ((c.1 : Nat) : Int).toNat = ((2 ^ c.1 : Nat) : Int) := by rw [Int.toNat_natCast]; simp
  rw [Nat.add_mul, Nat.one_mul] at h2
  obtain ⟨P, hP⟩ : ∃ P : Nat, 2 ^ c.1 = P := ⟨_, rfl⟩
  have hm : (c.2 : Int) * ((P : Nat) : Int) = ((c.2 * P : Nat) : Int) := by simp
  rw [hP] at h2
  have := span_tree (c.1 : Int) (c.2 : Int) ((c.2 * P : Nat) : Int) w (by omega) (by omega) (by omega) (by rw [eP, hP, hm]) (by rw [eP, hP]; omega)
  rw [eP, hP] at this
  have e : ((c.2 * P : Nat) : Int) + (P : Int) = (((c.2 + 1) * P : Nat) : Int) := by rw [Nat.add_mul, Nat.one_mul]; omega
  rw [e] at this
  rw [hP]
  exact this
/-- what a part's trees hash to -/
def partI (L : List (List UInt8)) (p : List (Nat × Nat)) : List (List UInt8) := p.map fun c => treeI L (spanOf c).1 (spanOf c).2

theorem partI_snoc (L : List (List UInt8)) (p : List (Nat × Nat)) (c : Nat × Nat) : partI L (p ++ [c]) = partI L p ++ [treeI L (spanOf c).1 (spanOf c).2] := by simp [partI]
set_option maxRecDepth 100000 in
set_option maxHeartbeats 8000000 in
theorem folded_any (a : Nat → Addr) (B : Nat) (L : List (List UInt8)) (p : List (Nat × Nat)) (v : Value) (A : Option Addr) (n c : Nat) (w : World) (hE : EnvP B a w) (hI : HIn w A n c L) (hn : n ≤ 1000) (hP : Rd w v 2 p.length (coordCells p)) (hin : ∀ q ∈ p, InLog n q) (hp0 : p ≠ []) (hpm : p.length ≤ 1000) :
    Calls Tryd.prog 23 #[.agg #[v], .slice A n c] w fun ev w' => ev = .returned (.tuple #[hv (foldR nodeH zeroH (partI L p)), .bool true]) ∧ Below w.heap.size w w' := by
  have hLn := hI.2.1
  have hnc := hI.2.2.1
  have h32 := hI.1
  have hn0 : 0 < n := by
    obtain ⟨q, hq⟩ := List.exists_mem_of_ne_nil p hp0
    have := hin q hq
    have h2 := this.2
    have := Nat.two_pow_pos q.1
    rw [Nat.add_mul, Nat.one_mul] at h2
    omega
  obtain ⟨g, o, rfl⟩ : ∃ g o, A = some ⟨g, o, none⟩ := by
    rcases hI.2.2.2.2 with h | ⟨g, o, h, _⟩
    · rw [h] at hLn; simp at hLn; omega
    · exact ⟨g, o, h⟩
  have HE := Lib.hid hE
  have HI := Lib.hid hI
  have H32L := Lib.hid h32
  obtain ⟨hpc, PA_, pc, rfl, hpr⟩ := hP
  obtain ⟨m, hm⟩ : ∃ m, p.length = m := ⟨_, rfl⟩
  rw [hm] at hpr hpm hpc ⊢
  have HM := Lib.hid hm
  have HPR := Lib.hid hpr
  have HIN := Lib.hid hin
  have HP0 := Lib.hid hp0
  have hPIl : H32 (partI L p) := fun z hz => by
    obtain ⟨q, hq, rfl⟩ := List.mem_map.1 hz
    have h1 := hin q hq
    have h2 := h1.2
    have h3 := Nat.two_pow_pos q.1
    rw [Nat.add_mul, Nat.one_mul] at h2
    exact treeI_len h32 _ _ (by simp only [spanOf]; omega) (by simp only [spanOf, Nat.add_mul, Nat.one_mul]; omega) (by simp only [spanOf, Nat.add_mul, Nat.one_mul]; omega) (by rw [pow2_64]; simp only [spanOf, Nat.add_mul, Nat.one_mul]; omega)
  have H32P := Lib.hid hPIl
  have hfl := foldR_len (partI L p) hPIl
  obtain ⟨F, hF⟩ : ∃ F, foldR nodeH zeroH (partI L p) = F := ⟨_, rfl⟩
  rw [hF] at hfl ⊢
  have HF := Lib.hid hF
  obtain ⟨vr, evr, Hvr, Zvr, Ivr, Ovr⟩ := row_of F hfl
  have EVR := Lib.hid evr
  obtain ⟨i0, hi, hz0, hz1, hz2⟩ := info_parts info_hash
  obtain ⟨wz, hwz⟩ : ∃ z, (w.alloc (.cells #[.slice PA_ m pc] 58)).alloc (.cells (List.replicate 32 (Value.int .u8 0)).toArray 26) = z := ⟨_, rfl⟩
  have HB : Hid (Below w.heap.size w wz) := Lib.hid (by rw [← hwz]; exact ((Below.refl _ _).alloc (Nat.le_refl _) _).alloc (by simp) _)
  have hsz : w.heap.size + 2 = wz.heap.size := by rw [← hwz]; simp
  have k0 : wz.cell? ⟨w.heap.size, 0, none⟩ = some (.slice PA_ m pc) := by rw [← hwz]; exact cell_alloc (cell_new _ _ 0 _ rfl) _
  have R4 : Hid (wz.heap[w.heap.size + 1]? = some (.cells (List.replicate 32 (Value.int .u8 0)).toArray 26 (0, 0))) := Lib.hid (by rw [← hwz]; exact heap_at _ _ _ (by simp))
  have HK0 := Lib.hid k0
  have HWZ := Lib.hid hwz
  simp only [List.replicate, List.toArray] at HWZ
  have i2 : (n : Int) ≤ c := by omega
  have i3 : (0 : Int) ≤ n := by omega
  have hwn : IntKind.u64.wrap (n : Int) = n := IntWalk.u64_in _ (by omega)
  have HNN := Lib.hid (And.intro hLn hnc)
  clear hE hI h32 hpr hpc hm hin hp0 hPIl hfl hF evr hwz k0 hLn
  go_enter Tryd.func23, Tryd.ntmps23
  go_upto_region 1 with fail
  rw [HWZ.out]
  go_wp2_with fail
  go_loopw [6, 7] (fun vl i wr => ∃ k : Nat, k ≤ m ∧ i = .int .i64 k ∧ Hid (wr.ownsRow wz.heap.size 26 32 vl k (hashCells (partI L (p.take k)))) ∧ Hid (Below wz.heap.size wz wr)) (fun _ i _ => m - (intOf i).toNat)
  case atStart => exact ⟨0, Nat.zero_le _, rfl, Lib.hid (World.ownsRow_nil _ _ _ _), Lib.hid (Below.refl _ _)⟩
  case round =>
    obtain ⟨k, hk, rfl, HO, HBR⟩ := hrel
    have k1 := cell_below HBR.out HK0.out (by omega)
    have hsr := HBR.out.size
    have hl0 : w.heap.size < wr.heap.size := by omega
    have j0 : (0 : Int) ≤ k := by omega
    by_cases hlt : k < m
    · obtain ⟨g3, rfl, hc3⟩ : ∃ g, PA_ = some ⟨g, 0, none⟩ ∧ ∀ i u, (coordCells p)[i]? = some u → w.cell? ⟨g, i, none⟩ = some u := by
        rcases HPR.out with q | q
        · omega
        · exact q
      obtain ⟨q, hq⟩ : ∃ q, p[k]? = some q := ⟨_, List.getElem?_eq_getElem (by have := HM.out; omega)⟩
      have hat := coordCells_at p k q hq
      have HBW : Hid (Below w.heap.size w wr) := Lib.hid (HB.out.trans (HBR.out.mono HB.out.size))
      have d0 := cell_below HBW.out (hc3 _ _ hat.1) (block_of_cell (hc3 _ _ hat.1))
      have d1 := cell_below HBW.out (hc3 _ _ hat.2) (block_of_cell (hc3 _ _ hat.2))
      have hiq := HIN.out q (List.mem_of_getElem? hq)
      have HSP := Lib.hid (fun w' => span_nat q n w' hiq (by omega))
      have hiq2 := hiq.2
      have hqp := Nat.two_pow_pos q.1
      obtain ⟨bN, hbN⟩ : ∃ x, q.2 * 2 ^ q.1 = x := ⟨_, rfl⟩
      obtain ⟨eN, heN⟩ : ∃ x, (q.2 + 1) * 2 ^ q.1 = x := ⟨_, rfl⟩
      have hbe : bN < eN := by rw [← hbN, ← heN, Nat.add_mul, Nat.one_mul]; omega
      rw [heN] at hiq2
      rw [hbN, heN] at HSP
      have HSO : Hid (treeI L (spanOf q).1 (spanOf q).2 = treeI L bN eN) := Lib.hid (by unfold spanOf; rw [hbN, heN])
      have hx2l := treeI_len H32L.out (bN : Int) eN (by omega) (by omega) (by have := HNN.out.1; omega) (by rw [pow2_64]; omega)
      obtain ⟨x2, hx2⟩ : ∃ x, treeI L bN eN = x := ⟨_, rfl⟩
      rw [hx2] at hx2l HSO
      have X2 := Lib.hid hx2l
      obtain ⟨v2, ev2, Hv2, Zv2, Iv2, Ov2⟩ := row_of x2 hx2l
      have HMT : Hid (∀ w', Below w.heap.size w w' → Calls Tryd.prog 24 #[.slice (some ⟨g, o + bN * 32, none⟩) (eN - bN) (c - bN)] w' fun ev w2 => ev = .returned (.agg v2) ∧ Below w'.heap.size w' w2) := Lib.hid (fun w' h => by
        have h1 := hin_take (hin_drop (HI.out.below h) (k := bN) (by omega)) (k := eN - bN) (by omega)
        have := mth_any a B L H32L.out (eN - bN) bN (eN - bN) (c - bN) _ w' (Nat.le_refl _) (by have := HNN.out.1; omega) (by omega) (HE.out.step h) h1
        rw [show bN + (eN - bN) = eN by omega, hx2, ev2] at this
        exact this)
      obtain ⟨cl, hcl⟩ : ∃ x : Int, (q.1 : Int) = x := ⟨_, rfl⟩
      obtain ⟨cx, hcx⟩ : ∃ x : Int, (q.2 : Int) = x := ⟨_, rfl⟩
      rw [hcl, hcx] at HSP
      rw [hcl] at d0
      rw [hcx] at d1
      have HTK : Hid (partI L (p.take (k + 1)) = partI L (p.take k) ++ [x2]) := Lib.hid (by rw [take_next hq, partI_snoc, HSO.out])
      have j1 : (k : Int) < m := by omega
      have s1 : (bN : Int) ≤ eN := by omega
      have s2 : (eN : Int) ≤ n := by omega
      have s3 : (0 : Int) ≤ bN := by omega
      have s4 : (bN : Int) ≤ c := by omega
      have s5 : (eN : Int) ≤ c := by omega
      have z2 : ¬ c = bN := by omega
      have z1 : (c = bN) = False := by simp; omega
      clear hc3 hat hq hiq hiq2 hqp hbN heN hx2 hx2l hcl hcx ev2
      go_wp2_with fail
      refine (HSP.out wr).mono ?_
      rintro ev w1 ⟨rfl, b1⟩
      have HB1 : Hid (Below wz.heap.size wz w1) := Lib.hid (HBR.out.trans (b1.mono hsr))
      have hsw1 := b1.size
      have HRW1 := Lib.hid b1
      clear b1
      go_wp2_with fail
      refine (HMT.out _ (HB.out.trans ((HB1.out.alloc (by omega) _).mono HB.out.size))).mono ?_
      rintro ev w3 ⟨rfl, b3⟩
      have HB3 : Hid (Below wz.heap.size wz w3) := Lib.hid ((HB1.out.alloc (by omega) _).trans (b3.mono (by simp; omega)))
      have HR3 : Hid (Below wr.heap.size wr w3) := Lib.hid (by
        have h1 : Below wr.heap.size wr (w1.alloc (.cells #[.int .u64 (bN : Int), .int .u64 (eN : Int)] 93)) := (HRW1.out).alloc hsw1 _
        exact h1.trans (b3.mono (by simp; omega)))
      have hown := own_below HO.out HR3.out (Nat.le_refl _)
      have hown2 := hown.alloc (.cells v2 26)
      have hnews : ∀ j u, (bytesV x2)[j]? = some u → (w3.alloc (.cells v2 26)).cell? ((⟨w3.heap.size, 0, none⟩ : Addr).add j) = some u := fun j u hj => by
        rw [addr_add, cell_of_row _ _ j _ 26 (0, 0) (heap_alloc_new w3 _), ← Hv2.out]
        simpa using hj
      have hb3 : wz.heap.size ≤ w3.heap.size := HB3.out.size
      clear b3 hown
      go_wp2_with (first | (refine wpList_buildSlice_row rfl 22 26 _ v2 _ 32 rfl rfl Tryd.underlying22 Tryd.sizeOf26 Tryd.zeroValue26 rfl Zv2.out (by omega) (by omega) ?_) | (at_builtin; refine wpList_append_lies _ rfl _ _ 22 rfl wz.heap.size 26 i0 _ 32 32 Tryd.underlying22 hi hz0 hz1 hz2 rfl (by decide) u6 _ _ rfl hown2 ⟨w3.heap.size, 0, none⟩ 1 1 (bytesV x2) rfl (by rw [bytesV_length, X2.out]) hnews (bytesV_one x2) (by decide) (by unfold maxLen; omega) (by omega) (by simp; omega) _ rfl ?_; intro g9 cap9 w9 hown9 hgrow9 hat9 hlt9))
      have HF9 : Hid (w9.ownsRow wz.heap.size 26 32 (.slice (some ⟨g9, 0, none⟩) (k + 1) cap9) (k + 1) (hashCells (partI L (p.take (k + 1)))) ∧ Below wz.heap.size wz w9) := Lib.hid ⟨own_congr hown9 rfl (by rw [HTK.out, hashCells_append, hashCells_one]), (HB3.out.alloc hb3 _).grown hgrow9 (by simp; omega) (fun k hk => (hown2.lt k hk).1)⟩
      clear hown9 hgrow9 hat9 hlt9 hown2 hnews
      go_roundw
      case rel => exact ⟨k + 1, by omega, by go_num, Lib.hid HF9.out.1, Lib.hid HF9.out.2⟩
      case measure => simp [intOf]; omega
    · obtain rfl : k = m := by omega
      have e : p.take k = p := List.take_of_length_le (by have := HM.out; omega)
      have ho := HO.out
      rw [e] at ho
      obtain ⟨A6, c6, rfl, hc6⟩ := own_shape ho
      have hlp : (partI L p).length = k := by unfold partI; rw [List.length_map, HM.out]
      have hIn6 := own_hin ho H32P.out hlp
      have HFO : Hid (Calls Tryd.prog 9 #[.slice A6 k c6] wr fun ev w' => ev = .returned (.tuple #[.agg vr, .nilIface]) ∧ Below wr.heap.size wr w') := Lib.hid (by
        have hBW : Below w.heap.size w wr := HB.out.trans (HBR.out.mono HB.out.size)
        have := fold_ok (partI L p) A6 k c6 wr (HE.out.step hBW).env.tab (by omega) hIn6 (by unfold partI; intro q; exact HP0.out (List.map_eq_nil_iff.1 q))
        rw [HF.out, EVR.out] at this
        exact this)
      clear e ho hIn6 hlp
      go_wp2_with fail
      refine HFO.out.mono ?_
      rintro ev w5 ⟨rfl, b5⟩
      have hs5 := b5.size
      have R45 : Hid (w5.heap[w.heap.size + 1]? = some (.cells (List.replicate 32 (Value.int .u8 0)).toArray 26 (0, 0))) := Lib.hid ((b5.block _ (by omega)).trans ((HBR.out.block _ (by omega)).trans R4.out))
      have HB5 : Hid (Below w.heap.size w w5) := Lib.hid ((HB.out.trans (HBR.out.mono HB.out.size)).trans (b5.mono (by omega)))
      clear b5
      go_upto_region 10 with (refine wpList_store_row_any rfl 26 _ _ rfl w5.heap.size vr rfl rfl 26 _ (heap_at _ _ _ rfl) Ivr.out (by rw [Zvr.out]; rfl) Ovr.out ?_; intro wk hbN hgN hsN; have BK := Lib.hid (And.intro hbN hsN); have R10 := Lib.hid hgN; clear hbN hgN hsN)
      have hk10 : w5.heap.size < wk.heap.size := (Array.getElem?_eq_some_iff.1 R10.out).1
      have R4k : Hid (wk.heap[w.heap.size + 1]? = some (.cells (List.replicate 32 (Value.int .u8 0)).toArray 26 (0, 0))) := Lib.hid ((BK.out.1.same _ (by simp; omega) (by omega)).trans ((((Below.refl _ w5).alloc (Nat.le_refl _) _).block _ (by omega)).trans R45.out))
      have HBK : Hid (Below w.heap.size w wk) := Lib.hid ((HB5.out.alloc HB5.out.size _).trans (BK.out.1.to_below (by have := HB5.out.size; simp; omega) (fun k hk q => by have := HB5.out.size; omega)))
      refine wp_region_held_drew (S := But (fun k => k = w.heap.size + 1) wk) (by kernel_rfl) (But.refl _ _).drew (fun hHeld => ?_)
      refine wpAnyH_take (i := 0) (v := _) rfl (by kernel_rfl) (by kernel_rfl) (by kernel_rfl) (fun _ _ _ h => h) (yieldsIf_load_row (by rfl) 26 _ (by rfl) _ (by rfl) 26 vr (0, 0) _ (fun w h => (But.same h _ hk10 (by omega)).trans R10.out) Tryd.underlying26 rfl Ivr.out) (by assumption) ?_
      try simp only [Act.put, List.getElem_toArray, List.getElem_cons_zero, List.setIfInBounds_toArray, List.set_cons_zero, List.set_cons_succ]
      refine wpAnyH_take (i := 1) (v := ?tv2) rfl (by kernel_rfl) (by kernel_rfl) (by kernel_rfl) (fun _ _ _ h => h) (Or.inl ⟨by rfl, ?ty2⟩) (by assumption) ?tr2
      case ty2 => (intro w hSw; (try dsimp only at hSw); go_simp; (try with_reducible rfl))
      try simp only [Act.put, List.getElem_toArray, List.getElem_cons_zero, List.getElem_cons_succ, List.setIfInBounds_toArray, List.set_cons_zero, List.set_cons_succ]
      refine wpAnyH_take (i := 2) (v := ?tv3) rfl (by kernel_rfl) (by kernel_rfl) (by kernel_rfl) (fun _ _ _ h => h) (Or.inl ⟨by rfl, ?ty3⟩) (by assumption) ?tr3
      case ty3 => (intro w hSw; (try dsimp only at hSw); go_simp; (try with_reducible rfl))
      try simp only [Act.put, List.getElem_toArray, List.getElem_cons_zero, List.getElem_cons_succ, List.setIfInBounds_toArray, List.set_cons_zero, List.set_cons_succ]
      refine wpAnyH_ready (rs := [3]) (by kernel_rfl) (by simp) ?_
      refine AllReadyH.cons (i := 3) rfl (fun K2 hK2 => ?_) AllReadyH.nil
      rw [if_pos (by rfl)]
      refine wp_store_row 26 _ _ rfl (w.heap.size + 1) vr rfl rfl 26 _ R4k.out Ivr.out (by rw [Zvr.out]; simp) Ovr.out ?_
      refine hK2.out _ _ (show But (fun k => k = w.heap.size + 1) wk _ from ((But.refl (fun k => k = w.heap.size + 1) wk).drew.setRow (w.heap.size + 1) vr (fun _ => rfl))) (fun hHeld2 => ?_)
      clear hK2 K2
      try simp only [Act.put, List.getElem_toArray, List.getElem_cons_zero, List.getElem_cons_succ]
      refine wpAnyH_take (i := 4) (v := ?tv4) rfl (by kernel_rfl) (by kernel_rfl) (by kernel_rfl) (fun _ _ _ h => h) (Or.inl ⟨by rfl, ?ty4⟩) (by assumption) ?tr4
      case ty4 => (intro w hSw; (try dsimp only at hSw); go_simp; (try with_reducible rfl))
      try simp only [Act.put, List.getElem_toArray, List.getElem_cons_zero, List.getElem_cons_succ, List.setIfInBounds_toArray, List.set_cons_zero, List.set_cons_succ]
      refine wpAnyH_done (by kernel_rfl) ?_ _
      go_wp2
      refine bodyPost_ret (v := .tuple #[.agg vr, .bool true]) (results_row_tmp rfl _ _ (w.heap.size + 1) 26 vr (0, 0) _ rfl (setRow_heap wk.drew _ _ _ _ _ R4k.out) Tryd.underlying26 rfl Ivr.out _ rfl) rfl ⟨by rw [EVR.out], HBK.out.trans (hHeld2.to_below HBK.out.size (fun k hk q => by omega))⟩
end Go.Proofs.YtdodfeoaioolnaaDoor

/- cartularylaw15.proves: the parts' hashes are these. Condition: the package-level variables read as listed. -/
namespace Go.Proofs.YtdodfeoaioolnaaDoor
open Go.ChangeShapes Go.WideShapes Go.ChangeAt Go.RowKit
set_option linter.unusedVariables false
set_option maxRecDepth 100000 in
set_option maxHeartbeats 8000000 in
theorem proves_any (a : Nat → Addr) (B : Nat) (L W : List (List UInt8)) (ps : List (List (Nat × Nat))) (v : Value) (A A3 : Option Addr) (n c n3 c3 : Nat) (w : World) (hE : EnvP B a w) (hI : HIn w A n c L) (hn : n ≤ 1000) (hP : PRd w v ps) (hin : AllIn n ps) (hne : ∀ p ∈ ps, p ≠ [] ∧ p.length ≤ 1000) (hps : ps.length ≤ 1000)
    (hW : HIn w A3 n3 c3 W) (hWe : W = ps.map fun p => foldR nodeH zeroH (partI L p)) :
    Calls Tryd.prog 25 #[v, .slice A n c, .slice A3 n3 c3] w fun ev w' => ev = .returned (.bool true) ∧ Below w.heap.size w w' := by
  have HE := Lib.hid hE
  have HI := Lib.hid hI
  have HW := Lib.hid hW
  have hWl := hW.2.1
  have hlw : W.length = ps.length := by rw [hWe, List.length_map]
  obtain ⟨vs, ⟨_, A1, c1, rfl, hv1⟩, hv2⟩ := hP
  obtain ⟨m, hm⟩ : ∃ m, ps.length = m := ⟨_, rfl⟩
  obtain rfl : m = n3 := by omega
  rw [hm] at hv1 hps ⊢
  have HM := Lib.hid hm
  have HV := Lib.hid (And.intro hv1 hv2)
  have HX := Lib.hid (And.intro hin (And.intro hne (And.intro hWe hn)))
  clear hE hI hW hWl hlw hv1 hv2 hm hin hne hWe
  go_enter Tryd.func25, Tryd.ntmps25
  go_wp2
  go_loopw [7] (fun i wr => ∃ k : Nat, k ≤ m ∧ i = .int .i64 k ∧ Hid (Below w.heap.size w wr)) (fun i _ => m - (intOf i).toNat)
  case atStart => exact ⟨0, Nat.zero_le _, rfl, Lib.hid (Below.refl _ _)⟩
  case round =>
    obtain ⟨k, hk, rfl, HB⟩ := hrel
    have j0 : (0 : Int) ≤ k := by omega
    by_cases hlt : k < m
    · obtain ⟨g1, rfl, hc1⟩ : ∃ g, A1 = some ⟨g, 0, none⟩ ∧ ∀ j u, vs[j]? = some u → w.cell? ⟨g, j, none⟩ = some u := by
        rcases HV.out.1 with q | q
        · omega
        · exact q
      obtain ⟨p, hp⟩ : ∃ p, ps[k]? = some p := ⟨_, List.getElem?_eq_getElem (by have := HM.out; omega)⟩
      obtain ⟨u, hu, ru⟩ := HV.out.2 k p hp
      have hpm := List.mem_of_getElem? hp
      have a0 := cell_below HB.out (hc1 k _ hu) (block_of_cell (hc1 k _ hu))
      have hwk : W[k]? = some (foldR nodeH zeroH (partI L p)) := by rw [HX.out.2.2.1, List.getElem?_map, hp]; rfl
      have hfd := folded_any a B L p u A n c wr (HE.out.step HB.out) (HI.out.below HB.out) HX.out.2.2.2 (ru.below HB.out) (HX.out.1 p hpm) (HX.out.2.1 p hpm).1 (HX.out.2.1 p hpm).2
      obtain ⟨x, hx⟩ : ∃ x, foldR nodeH zeroH (partI L p) = x := ⟨_, rfl⟩
      rw [hx] at hwk hfd
      obtain ⟨g3, o3, rfl, gl3, rx, xl⟩ := HW.out.row hwk
      obtain ⟨vx, evx, Hvx, Zvx, Ivx, Ovx⟩ := row_of x xl
      rw [evx] at hfd
      have HFD := Lib.hid hfd
      obtain ⟨px, hpx⟩ : ∃ q, bytesV x = q := ⟨_, rfl⟩
      have HIX : Hid ((Tryd.prog.info? 26).map (·.size) = some px.length) := Lib.hid (by rw [← hpx, bytesV_length, xl]; kernel_rfl)
      have hqq : ∀ w, (Op.equalIn 10000 26 (.agg vx) (.agg px.toArray)).run Tryd.prog w = .ok true w := fun w => by rw [eq_hash x x xl xl vx _ evx (by rw [hv, hpx]) w]; simp
      have KP0 : Hid (∀ w', Below w.heap.size w w' → w'.rangeAt g3 (o3 + k * 32) px) := Lib.hid (fun w' h => by rw [← hpx]; exact rangeAt_below h rx gl3)
      obtain ⟨A5, n5, c5, rfl⟩ : ∃ A5 n5 c5, u = .slice A5 n5 c5 := by
        obtain ⟨_, A5, c5, e5, _⟩ := ru
        exact ⟨A5, _, c5, e5⟩
      have j1 : (k : Int) < m := by omega
      have HQ := Lib.hid hqq
      clear hc1 hp hu ru hpm hwk hfd hx rx xl evx hpx gl3 hqq
      go_wp2_with fail
      refine HFD.out.mono ?_
      rintro ev w1 ⟨rfl, b1⟩
      have HB1 : Hid (Below w.heap.size w w1) := Lib.hid (HB.out.trans (b1.mono HB.out.size))
      clear b1
      go_upto_region 7 with (refine wpList_store_row_any rfl 26 _ _ rfl w1.heap.size vx rfl rfl 26 _ (heap_at _ _ _ rfl) Ivx.out (by rw [Zvx.out]; rfl) Ovx.out ?_; intro wk hbN hgN hsN; have BK := Lib.hid (And.intro hbN hsN); have R8 := Lib.hid hgN; clear hbN hgN hsN)
      have hk8 : w1.heap.size < wk.heap.size := (Array.getElem?_eq_some_iff.1 R8.out).1
      have HBK : Hid (Below w.heap.size w wk) := Lib.hid ((HB1.out.alloc HB1.out.size _).trans (BK.out.1.to_below (by have := HB1.out.size; simp; omega) (fun k hk q => by have := HB1.out.size; omega)))
      have KP : Hid (∀ w', Gr wk w' → w'.rangeAt g3 (o3 + k * 32) px) := Lib.hid (fun w' h => KP0.out w' (HBK.out.trans (Below.mono h HBK.out.size)))
      have hqq := HQ.out
      refine wp_region_held_drew (S := Gr wk) (by kernel_rfl) (Gr.drew (Gr.refl _)) (fun hHeld => ?_)
      refine wpAnyH_take (i := 0) (v := ?tv1) rfl (by kernel_rfl) (by kernel_rfl) (by kernel_rfl) (fun _ _ _ h => h) (Or.inl ⟨by rfl, ?ty1⟩) (by assumption) ?tr1
      case ty1 => (intro w hSw; (try dsimp only at hSw); go_simp; (try with_reducible rfl))
      try simp only [Act.put, List.getElem_toArray, List.getElem_cons_zero, List.setIfInBounds_toArray, List.set_cons_zero, List.set_cons_succ]
      refine wpAnyH_take (i := 1) (v := ?tv2) rfl (by kernel_rfl) (by kernel_rfl) (by kernel_rfl) (fun _ _ _ h => h) (Or.inl ⟨by rfl, ?ty2⟩) (by assumption) ?tr2
      case ty2 => (intro w hSw; (try dsimp only at hSw); go_simp; (try with_reducible rfl))
      try simp only [Act.put, List.getElem_toArray, List.getElem_cons_zero, List.getElem_cons_succ, List.setIfInBounds_toArray, List.set_cons_zero, List.set_cons_succ]
      refine wpAnyH_take (i := 2) (v := ?tv3) rfl (by kernel_rfl) (by kernel_rfl) (by kernel_rfl) (fun _ _ _ h => h) (Or.inl ⟨by rfl, ?ty3⟩) (by assumption) ?tr3
      case ty3 => (intro w hSw; (try dsimp only at hSw); go_simp; (try with_reducible rfl))
      try simp only [Act.put, List.getElem_toArray, List.getElem_cons_zero, List.getElem_cons_succ, List.setIfInBounds_toArray, List.set_cons_zero, List.set_cons_succ]
      refine wpAnyH_take (i := 3) (v := _) rfl (by kernel_rfl) (by kernel_rfl) (by kernel_rfl) (fun _ _ _ h => h) (yieldsIf_load_row (by rfl) 26 _ (by rfl) _ (by rfl) 26 vx (0, 0) _ (fun w h => (Below.block h _ hk8).trans R8.out) Tryd.underlying26 rfl Ivx.out) (by assumption) ?_
      try simp only [Act.put, List.getElem_toArray, List.getElem_cons_zero, List.getElem_cons_succ, List.setIfInBounds_toArray, List.set_cons_zero, List.set_cons_succ]
      refine wpAnyH_take (i := 4) (v := ?tv5) rfl (by kernel_rfl) (by kernel_rfl) (by kernel_rfl) (fun _ _ _ h => h) (Or.inl ⟨by rfl, ?ty5⟩) (by assumption) ?tr5
      case ty5 => (intro w hSw; (try dsimp only at hSw); go_simp; (try with_reducible rfl))
      try simp only [Act.put, List.getElem_toArray, List.getElem_cons_zero, List.getElem_cons_succ, List.setIfInBounds_toArray, List.set_cons_zero, List.set_cons_succ]
      refine wpAnyH_take (i := 5) (v := ?tv6) rfl (by kernel_rfl) (by kernel_rfl) (by kernel_rfl) (fun _ _ _ h => h) (Or.inl ⟨by rfl, ?ty6⟩) (by assumption) ?tr6
      case ty6 => (intro w hSw; (try dsimp only at hSw); go_simp; (try with_reducible rfl))
      try simp only [Act.put, List.getElem_toArray, List.getElem_cons_zero, List.getElem_cons_succ, List.setIfInBounds_toArray, List.set_cons_zero, List.set_cons_succ]
      refine wpAnyH_take (i := 6) (v := ?tv7) rfl (by kernel_rfl) (by kernel_rfl) (by kernel_rfl) (fun _ _ _ h => h) (Or.inl ⟨by rfl, ?ty7⟩) (by assumption) ?tr7
      case ty7 => (intro w hSw; (try dsimp only at hSw); go_simp; (try with_reducible rfl))
      try simp only [Act.put, List.getElem_toArray, List.getElem_cons_zero, List.getElem_cons_succ, List.setIfInBounds_toArray, List.set_cons_zero, List.set_cons_succ]
      refine wpAnyH_take (i := 7) (v := _) rfl (by kernel_rfl) (by kernel_rfl) (by kernel_rfl) (fun _ _ _ h => h) (yieldsIf_load_mid (by rfl) 26 _ (by rfl) g3 (o3 + k * 32) (by first | rfl | simp) px _ (fun w h => KP.out w h) Tryd.underlying26 (by rfl) HIX.out) (by assumption) ?_
      try simp only [Act.put, List.getElem_toArray, List.getElem_cons_zero, List.getElem_cons_succ, List.setIfInBounds_toArray, List.set_cons_zero, List.set_cons_succ]
      refine wpAnyH_take (i := 8) (v := ?tv9) rfl (by kernel_rfl) (by kernel_rfl) (by kernel_rfl) (fun _ _ _ h => h) (Or.inl ⟨by rfl, ?ty9⟩) (by assumption) ?tr9
      case ty9 => (intro w hSw; (try dsimp only at hSw); go_simp; (try with_reducible rfl))
      try simp only [Act.put, List.getElem_toArray, List.getElem_cons_zero, List.getElem_cons_succ, List.setIfInBounds_toArray, List.set_cons_zero, List.set_cons_succ]
      refine wpAnyH_take (i := 9) (v := ?tv10) rfl (by kernel_rfl) (by kernel_rfl) (by kernel_rfl) (fun _ _ _ h => h) (Or.inl ⟨by rfl, ?ty10⟩) (by assumption) ?tr10
      case ty10 => (intro w hSw; (try dsimp only at hSw); go_simp; (try with_reducible rfl))
      try simp only [Act.put, List.getElem_toArray, List.getElem_cons_zero, List.getElem_cons_succ, List.setIfInBounds_toArray, List.set_cons_zero, List.set_cons_succ]
      refine wpAnyH_done (by kernel_rfl) ?_ _
      have HFN := Lib.hid (show Below w.heap.size w _ from HBK.out.trans (Below.mono hHeld HBK.out.size))
      go_wp2
      go_roundw
      case rel => exact ⟨k + 1, by omega, by go_num, HFN⟩
      case measure => simp [intOf]; omega
    · go_wp2
      go_ret
      exact ⟨rfl, HB.out⟩
end Go.Proofs.YtdodfeoaioolnaaDoor

/- plan.Root; what the law PlanProves asks of its lists. Condition: the package-level variables read as listed. -/
namespace Go.Proofs.YtdodfeoaioolnaaDoor
open Go.ChangeShapes Go.WideShapes Go.ChangeAt Go.RowKit
set_option linter.unusedVariables false
theorem cut_all {L : List (List UInt8)} {n : Nat} (h : L.length = n) : cut L 0 n = L := by unfold cut; rw [List.drop_zero]; exact List.take_of_length_le (by omega)
theorem want_eq (L : List (List UInt8)) (l : List (Int × Int)) (hh : ∀ s ∈ l, Half s.1 s.2) : treesI L l = (l.map coverS).map fun p => foldR nodeH zeroH (partI L p) := by
  rw [List.map_map]
  refine List.map_congr_left fun s hs => ?_
  exact (fold_part L (hh s hs)).symm
theorem list_proves (a : Nat → Addr) (B : Nat) (L : List (List UInt8)) (l : List (Int × Int)) (v v3 : Value) (A : Option Addr) (n c base : Nat) (w : World) (hE : EnvP B a w) (hI : HIn w A n c L) (hn : n ≤ 1000) (hh : ∀ s ∈ l, Half s.1 s.2) (hin : SpansIn l n) (hl : l.length ≤ 1000)
    (hP : PRd w v (l.map coverS)) (h32 : H32 (treesI L l)) (hW : w.ownsRow base 26 32 v3 (treesI L l).length (hashCells (treesI L l))) :
    Calls Tryd.prog 25 #[v, .slice A n c, v3] w fun ev w' => ev = .returned (.bool true) ∧ Below w.heap.size w w' := by
  obtain ⟨A3, c3, rfl, _⟩ := own_shape hW
  refine proves_any a B L _ _ v A A3 n c _ c3 w hE hI hn hP ?_ ?_ (by rw [List.length_map]; exact hl) (own_hin hW h32 rfl) (want_eq L l hh)
  · intro p hp q hq
    obtain ⟨s, hs, rfl⟩ := List.mem_map.1 hp
    have := hin s hs
    exact cover_in (hh s hs) (by omega) q hq
  · intro p hp
    obtain ⟨s, hs, rfl⟩ := List.mem_map.1 hp
    obtain ⟨_, _, h3, _⟩ := cover_lie (hh s hs)
    have := coverL_len 128 s.1.toNat s.2.toNat
    exact ⟨h3, by unfold coverS; omega⟩
def RootPost (n : Nat) (w : World) (ev : Ending) (w' : World) : Prop := ∃ A m c, ev = .returned (.tuple #[.agg #[.slice A m c], .nilIface]) ∧ m = (coverS (0, (n : Int))).length ∧ Rd w' (.slice A m c) 2 m (coordCells (coverS (0, (n : Int)))) ∧ Below w.heap.size w w'
set_option maxRecDepth 100000 in
theorem root_any (n : Nat) (w : World) (hT : TzTab w) (hng : 19 ≤ w.heap.size) (hn : n ≤ 1000) : Calls Tryd.prog 22 #[.int .u64 (n : Int)] w (RootPost n w) := by
  have HT := Lib.hid (And.intro hT hng)
  obtain ⟨wa, hwa⟩ : ∃ z, w.alloc (.cells #[.slice none 0 0] 58) = z := ⟨_, rfl⟩
  have HB : Hid (Below w.heap.size w wa) := Lib.hid (by rw [← hwa]; exact (Below.refl _ _).alloc (Nat.le_refl _) _)
  have hsz : w.heap.size + 1 = wa.heap.size := by rw [← hwa]; simp
  have k0 : wa.cell? ⟨w.heap.size, 0, none⟩ = some (.slice none 0 0) := by rw [← hwa]; exact cell_new _ _ 0 _ rfl
  have f0 : wa.frozen? ⟨w.heap.size, 0, none⟩ = false := by rw [← hwa]; simp
  have HW := Lib.hid hwa
  have HTW : Hid (TzTab wa ∧ 19 ≤ wa.heap.size) := Lib.hid ⟨HT.out.1.below HB.out HT.out.2, by have := HT.out.2; omega⟩
  have HCV := Lib.hid (cover_ok 0 (n : Int) wa HTW.out.1 HTW.out.2 (by omega) (by omega) (by omega))
  have e9 : coverL 128 (0 : Int).toNat ((n : Int)).toNat = coverS (0, (n : Int)) := rfl
  rw [e9] at HCV
  obtain ⟨l, hl⟩ : ∃ l, coverS (0, (n : Int)) = l := ⟨_, rfl⟩
  rw [hl] at HCV
  have HL := Lib.hid hl
  obtain ⟨x, hx⟩ : ∃ x : Int, (n : Int) = x := ⟨_, rfl⟩
  rw [hx] at HCV
  have HX := Lib.hid hx
  unfold RootPost
  rw [hx]
  rw [hx] at hl
  rw [hl]
  clear hT hng hwa e9 hl hx
  go_enter Tryd.func22, Tryd.ntmps22
  go_upto_region 1 with fail
  rw [HW.out]
  go_wp2_with fail
  refine HCV.out.mono ?_
  rintro ev w1 ⟨v1, rfl, o1, b1⟩
  obtain ⟨A1, c1, rfl, _⟩ := own_shape o1
  have k1 := cell_below b1 k0 (by omega)
  have f1 := frozen_below b1 f0 (by omega)
  have hb1 := b1.size
  have hl1 : w.heap.size < w1.heap.size := by omega
  have HNE : Hid (some w.heap.size ≠ (Value.slice A1 l.length c1).ownBlock) := Lib.hid (own_ne_low o1 (by omega))
  have HO1 := Lib.hid o1
  have HB1 : Hid (Below w.heap.size w w1) := Lib.hid (HB.out.trans (b1.mono (by omega)))
  clear o1 b1 k0 f0
  obtain ⟨q, hq⟩ : ∃ q, l.length = q := ⟨_, rfl⟩
  have HQ := Lib.hid hq
  rw [hq] at HO1 HNE ⊢
  go_wp2
  have k9 : (w1.setCell ⟨w.heap.size, 0, none⟩ (.slice A1 q c1)).cell? ⟨w.heap.size, 0, none⟩ = some (.slice A1 q c1) := World.cell?_setCell_same' _ _ _ (by rw [k1]; rfl)
  refine bodyPost_ret (v := .tuple #[.agg #[.slice A1 q c1], .nilIface]) (by simp [results, Tryd.results22, go_sem, k9]) rfl ⟨A1, q, c1, rfl, HQ.out.symm, ?_, Below.setCell HB1.out (by simp) _⟩
  exact rd_own (own_setCell HO1.out HNE.out _)
end Go.Proofs.YtdodfeoaioolnaaDoor

