/- batch.Path: the closure that notes a leaf's siblings; Path. Condition: the package-level variables read as listed. -/
import Derived.Test.YtchfbdbgmlcfiaaGreatDoorBatchNodeP
import Derived.Test.YtchfbdbgmlcfiaaGreatDoorBatchVerify
namespace Go.Proofs.YtchfbdbgmlcfiaaGreatDoor
open Go.ChangeShapes Go.WideShapes Go.ChangeAt Go.RowKit
set_option linter.unusedVariables false
/-- the state of who asks for a path: the slice that its box holds, and the hashes in it -/
abbrev PathSt := Value × List (List UInt8)
def PInv (base W b1 b2 : Nat) (ix : Int) (s : PathSt) (w : World) : Prop :=
  W < w.heap.size ∧ base ≤ b1 ∧ base ≤ b2 ∧ b1 ≠ W ∧ b2 ≠ W ∧ b1 ≠ b2 ∧ w.heap[b1]? = some (.cells #[.int .u64 ix] 22 (0, 0)) ∧ w.heap[b2]? = some (.cells #[s.1] 23 (0, 0)) ∧
    w.ownsRow base 75 32 s.1 s.2.length (hashCells s.2) ∧ H32 s.2 ∧ s.1.ownBlock ≠ some W ∧ s.1.ownBlock ≠ some b1 ∧ s.1.ownBlock ≠ some b2
def PT (b1 b2 : Nat) (s : PathSt) (k : Nat) : Prop := k = b1 ∨ k = b2 ∨ s.1.ownBlock = some k
theorem pnoted (base W b1 b2 : Nat) (ix : Int) (hbW : base ≤ W) : Noted (β := List (List UInt8)) base W (PInv base W b1 b2 ix) (PT b1 b2) Prod.snd := by
  constructor
  · rintro s w k ⟨h0, h1, h2, h3, h4, h5, h6, h7, h8, h9, h10, h11, h12⟩ (rfl | rfl | q)
    · exact ⟨h1, (Array.getElem?_eq_some_iff.1 h6).1, h3⟩
    · exact ⟨h2, (Array.getElem?_eq_some_iff.1 h7).1, h4⟩
    · have := h8.lt k q
      exact ⟨this.1, this.2, fun e => h10 (by rw [← e]; exact q)⟩
  · rintro s w w' ⟨h0, h1, h2, h3, h4, h5, h6, h7, h8, h9, h10, h11, h12⟩ hsz hk
    refine ⟨by omega, h1, h2, h3, h4, h5, (hk b1 (.inl rfl)).trans h6, (hk b2 (.inr (.inl rfl))).trans h7, ?_, h9, h10, h11, h12⟩
    refine ⟨h8.1, ?_⟩
    rcases h8.2 with hn | ⟨g, cap, cur, e1, hb', hgg, rest⟩
    · exact .inl hn
    · exact .inr ⟨g, cap, cur, e1, hb', (hk g (.inr (.inr (by rw [e1]; rfl)))).trans hgg, rest⟩
theorem pinv_app {base W b1 b2 : Nat} {ix : Int} {s : PathSt} {w wz w9 : World} {p : List UInt8} {v' : Value} (hI : PInv base W b1 b2 ix s w) (hp : p.length = 32) (hB : Below w.heap.size w wz)
    (hown : w9.ownsRow base 75 32 v' (s.2.length + 1) (hashCells s.2 ++ hashCells [p])) (hgrow : wz.grownBy w9 s.1.ownBlock) (hblk : v'.ownBlock = s.1.ownBlock ∨ v'.ownBlock = some wz.heap.size) :
    PInv base W b1 b2 ix (v', s.2 ++ [p]) (w9.setCell ⟨b2, 0, none⟩ v') ∧ But (PT b1 b2 s) w (w9.setCell ⟨b2, 0, none⟩ v') ∧ ∀ k, PT b1 b2 (v', s.2 ++ [p]) k → PT b1 b2 s k ∨ w.heap.size ≤ k := by
  obtain ⟨h0, h1, h2, h3, h4, h5, h6, h7, h8, h9, h10, h11, h12⟩ := hI
  have l1 : b1 < w.heap.size := (Array.getElem?_eq_some_iff.1 h6).1
  have l2 : b2 < w.heap.size := (Array.getElem?_eq_some_iff.1 h7).1
  have hz := hB.size
  have e1 : w9.heap[b1]? = some (.cells #[.int .u64 ix] 22 (0, 0)) := (hgrow.block b1 (by omega) (fun e => h11 e.symm)).trans ((hB.block b1 l1).trans h6)
  have e2 : w9.heap[b2]? = some (.cells #[s.1] 23 (0, 0)) := (hgrow.block b2 (by omega) (fun e => h12 e.symm)).trans ((hB.block b2 l2).trans h7)
  have hne : ∀ k, k < w.heap.size → s.1.ownBlock ≠ some k → v'.ownBlock ≠ some k := fun k hk hs e => by
    rcases hblk with q | q
    · exact hs (q ▸ e)
    · rw [q] at e; cases e; omega
  refine ⟨⟨by have := hgrow.size; simp; omega, h1, h2, h3, h4, h5, (heap_setCell_other _ _ _ _ h5).trans e1, heap_setCell_same _ _ _ _ _ _ e2, ?_, h9.append (H32.one hp), hne W h0 h10, hne b1 l1 h11, hne b2 l2 h12⟩, ?_, ?_⟩
  · rw [hashCells_append, List.length_append]
    exact own_setCell hown (fun e => hne b2 l2 h12 e.symm) _
  · exact ((But.new hB).grown hgrow (fun r hr _ => .inr (.inr hr))).setCell b2 0 _ (fun _ => .inr (.inl rfl))
  · rintro k (q | q | q)
    · exact .inl (.inl q)
    · exact .inl (.inr (.inl q))
    · rcases hblk with e | e
      · exact .inl (.inr (.inr (e ▸ q)))
      · rw [e] at q; cases q; exact .inr hz
def PPost (base W b1 b2 : Nat) (ix : Int) (s : PathSt) (w : World) (o : List (List UInt8)) (ev : Ending) (w' : World) : Prop :=
  ev = .returned (.tuple #[]) ∧ ∃ s' : PathSt, s'.2 = o ∧ PInv base W b1 b2 ix s' w' ∧ But (PT b1 b2 s) w w' ∧ ∀ k, PT b1 b2 s' k → PT b1 b2 s k ∨ w.heap.size ≤ k
set_option maxRecDepth 100000 in
set_option maxHeartbeats 4000000 in
theorem pnote_ok (base W b1 b2 : Nat) (ix : Int) (hbW : base ≤ W) (hix : 0 ≤ ix) (hix2 : ix < 18446744073709551616) : NoteOKPath b1 b2 (PInv base W b1 b2 ix) (PT b1 b2) Prod.snd (pathStep ix) (fun o => o.length ≤ 1000) := by
  intro w s b m e p q hb hbm hme hem hp hq hI hG
  have HI := Lib.hid hI
  refine (?_ : Calls Tryz.prog 31 _ w (PPost base W b1 b2 ix s w (pathStep ix s.2 b m e p q)))
  obtain ⟨i0, hi, hz0, hz1, hz2⟩ := info_parts info_hash
  obtain ⟨vp, hvp⟩ : ∃ vp, (bytesV p).toArray = vp := ⟨_, rfl⟩
  obtain ⟨vq, hvq⟩ : ∃ vq, (bytesV q).toArray = vq := ⟨_, rfl⟩
  rw [show hv p = .agg vp by rw [hv, hvp], show hv q = .agg vq by rw [hv, hvq]]
  have HEp := Lib.hid hvp
  have HEq := Lib.hid hvq
  have HLp := Lib.hid hp
  have HLq := Lib.hid hq
  have HZp : Hid (vp.size = 32) := Lib.hid (by rw [← hvp]; simp [bytesV_length, hp])
  have HZq : Hid (vq.size = 32) := Lib.hid (by rw [← hvq]; simp [bytesV_length, hq])
  have HIp := Lib.hid (show (Tryz.prog.info? 75).map (·.size) = some vp.size by rw [HZp.out]; kernel_rfl)
  have HIq := Lib.hid (show (Tryz.prog.info? 75).map (·.size) = some vq.size by rw [HZq.out]; kernel_rfl)
  have hip : (Tryz.prog.info? 75).map (·.size) = some vp.size := HIp.out
  have hiq : (Tryz.prog.info? 75).map (·.size) = some vq.size := HIq.out
  have hop : vp.all (·.oneCell') = true := by rw [← hvp]; exact bytesV_all _
  have hoq : vq.all (·.oneCell') = true := by rw [← hvq]; exact bytesV_all _
  clear hvp hvq hp hq
  obtain ⟨wv, hwv⟩ : ∃ wv, (((w.alloc (.cells #[.int .u64 b, .int .u64 m] 101)).alloc (.cells #[.int .u64 m, .int .u64 e] 101)).alloc (.cells vp 75)).alloc (.cells vq 75) = wv := ⟨_, rfl⟩
  have hBv : Below w.heap.size w wv := by rw [← hwv]; exact ((((Below.refl _ _).alloc (Nat.le_refl _) _).alloc (by simp) _).alloc (by simp; omega) _).alloc (by simp; omega) _
  have HSV : Hid (wv.heap.size = w.heap.size + 4) := Lib.hid (by rw [← hwv]; simp)
  have R0 : Hid (wv.heap[w.heap.size]? = some (.cells #[.int .u64 b, .int .u64 m] 101 (0, 0))) := Lib.hid (by
    rw [← hwv, (((Below.refl _ _).alloc (Nat.le_refl _) _).alloc (by simp) _).alloc (by simp; try omega) _ |>.block w.heap.size (by simp)]; exact heap_at _ _ _ rfl)
  have R1 : Hid (wv.heap[w.heap.size + 1]? = some (.cells #[.int .u64 m, .int .u64 e] 101 (0, 0))) := Lib.hid (by
    rw [← hwv, ((Below.refl _ _).alloc (Nat.le_refl _) _).alloc (by simp) _ |>.block (w.heap.size + 1) (by simp)]; exact heap_at _ _ _ (by simp))
  have R2 : Hid (wv.heap[w.heap.size + 1 + 1]? = some (.cells vp 75 (0, 0))) := Lib.hid (by
    rw [← hwv, (Below.refl _ _).alloc (Nat.le_refl _) _ |>.block (w.heap.size + 1 + 1) (by simp)]; exact heap_at _ _ _ (by simp))
  have R3 : Hid (wv.heap[w.heap.size + 1 + 1 + 1]? = some (.cells vq 75 (0, 0))) := Lib.hid (by rw [← hwv]; exact heap_at _ _ _ (by simp))
  obtain ⟨h0, h1, h2, h3, h4, h5, h6, h7, h8, h9, h10, h11, h12⟩ := hI
  have l1 : b1 < w.heap.size := (Array.getElem?_eq_some_iff.1 h6).1
  have l2 : b2 < w.heap.size := (Array.getElem?_eq_some_iff.1 h7).1
  have s0 : wv.cell? ⟨w.heap.size, 0, none⟩ = some (.int .u64 b) := by rw [cell_of_row wv w.heap.size 0 _ 101 (0, 0) R0.out]; rfl
  have s1 : wv.cell? ⟨w.heap.size, 1, none⟩ = some (.int .u64 m) := by rw [cell_of_row wv w.heap.size 1 _ 101 (0, 0) R0.out]; rfl
  have s2 : wv.cell? ⟨w.heap.size + 1, 0, none⟩ = some (.int .u64 m) := by rw [cell_of_row wv (w.heap.size + 1) 0 _ 101 (0, 0) R1.out]; rfl
  have s3 : wv.cell? ⟨w.heap.size + 1, 1, none⟩ = some (.int .u64 e) := by rw [cell_of_row wv (w.heap.size + 1) 1 _ 101 (0, 0) R1.out]; rfl
  have cx : wv.cell? ⟨b1, 0, none⟩ = some (.int .u64 ix) := by rw [cell_of_row wv b1 0 _ 22 (0, 0) ((hBv.block b1 l1).trans h6)]; rfl
  have co : wv.cell? ⟨b2, 0, none⟩ = some s.1 := by rw [cell_of_row wv b2 0 _ 23 (0, 0) ((hBv.block b2 l2).trans h7)]; rfl
  have HBB : Hid (∀ cs, base ≤ (wv.alloc (.cells cs 75)).heap.size) := Lib.hid (fun cs => by have := HSV.out; simp; omega)
  have HNE : Hid (some b2 ≠ s.1.ownBlock) := Lib.hid (fun e => h12 e.symm)
  have HO : Hid (∀ cs, (wv.alloc (.cells cs 75)).ownsRow base 75 32 s.1 s.2.length (hashCells s.2)) := Lib.hid (fun cs => own_below (own_below h8 hBv (Nat.le_refl _)) ((Below.refl _ _).alloc (Nat.le_refl _) _) (Nat.le_refl _))
  have HCO : Hid (∀ cs, (wv.alloc (.cells cs 75)).cell? ⟨b2, 0, none⟩ = some s.1) := Lib.hid (fun cs => cell_alloc co _)
  have HFO : Hid (∀ cs, (wv.alloc (.cells cs 75)).frozen? ⟨b2, 0, none⟩ = false) := Lib.hid (fun cs => frozen_of_row _ b2 0 _ 23 (((Below.refl _ _).alloc (Nat.le_refl _) _ |>.block b2 (by have := HSV.out; omega)).trans ((hBv.block b2 l2).trans h7)))
  have HBv := Lib.hid hBv
  have HWV := Lib.hid hwv
  have hg0 : s.2.length ≤ 1000 := by
    unfold pathStep at hG
    split at hG
    · rw [List.length_append] at hG; omega
    · split at hG
      · rw [List.length_append] at hG; omega
      · exact hG
  have hbx : (Tryz.prog.info? 101).map (·.size) = some 2 := by kernel_rfl
  clear h0 h1 h2 h3 h4 h5 h6 h7 h8 h9 h10 h11 h12 hBv hwv hG
  unfold pathStep
  by_cases hL : b ≤ ix ∧ ix < m
  · rw [if_pos hL]
    have HFIN : Hid (∀ cs (w9 : World) (v' : Value), w9.ownsRow base 75 32 v' (s.2.length + 1) (hashCells s.2 ++ hashCells [q]) → (wv.alloc (.cells cs 75)).grownBy w9 s.1.ownBlock → (v'.ownBlock = s.1.ownBlock ∨ v'.ownBlock = some (wv.alloc (.cells cs 75)).heap.size) → PPost base W b1 b2 ix s w (s.2 ++ [q]) (.returned (.tuple #[])) (w9.setCell ⟨b2, 0, none⟩ v')) := Lib.hid (fun cs w9 v' o1 o2 o3 => ⟨rfl, (v', s.2 ++ [q]), rfl, pinv_app HI.out HLq.out (HBv.out.alloc HBv.out.size _) o1 o2 o3⟩)
    obtain ⟨g1, g2⟩ := hL
    go_enter Tryz.func31, Tryz.ntmps31
    go_upto_region 1 with fail
    rw [HWV.out]
    go_wp2_with (first
      | (refine wpList_load_row rfl 75 _ rfl (w.heap.size + 1 + 1 + 1) rfl 75 vq (0, 0) _ R3.out Tryz.underlying75 rfl HIq.out ?_)
      | (refine wpList_buildSlice_row rfl 23 75 _ vq _ 32 rfl rfl Tryz.underlying23 Tryz.sizeOf75 Tryz.zeroValue75 rfl HZq.out (by omega) (by omega) ?_)
      | (refine wpList_append_list rfl _ _ 23 rfl base wv.heap.size 75 i0 _ 32 32 Tryz.underlying23 hi hz0 hz1 hz2 rfl (by omega) _ _ s.2.length 1 (hashCells s.2) (hashCells [q]) rfl rfl (HO.out vq) (own_one wv wv.heap.size vq q HLq.out HEq.out (Nat.le_refl _)) (hashCells_cell _) (by unfold maxLen; omega) (by omega) (HBB.out _) ?_; intro v' w9 hown hgrow hblk; obtain ⟨A9, c9, rfl, hc9⟩ := own_shape hown; have HN9 := Lib.hid (And.intro hown (And.intro hgrow hblk)); have e9 := hgrow.block b2 (by have := HSV.out; simp; omega) HNE.out; have c5 : w9.cell? ⟨b2, 0, none⟩ = some s.1 := cell_block e9 (HCO.out vq); have f5 : w9.frozen? ⟨b2, 0, none⟩ = false := frozen_block e9 (HFO.out vq); clear hown hgrow hblk e9))
    go_end0
    exact HFIN.out _ w9 _ HN9.out.1 HN9.out.2.1 HN9.out.2.2
  · by_cases hR : m ≤ ix ∧ ix < e
    · rw [if_neg hL, if_pos hR]
      have HFIN : Hid (∀ cs (w9 : World) (v' : Value), w9.ownsRow base 75 32 v' (s.2.length + 1) (hashCells s.2 ++ hashCells [p]) → (wv.alloc (.cells cs 75)).grownBy w9 s.1.ownBlock → (v'.ownBlock = s.1.ownBlock ∨ v'.ownBlock = some (wv.alloc (.cells cs 75)).heap.size) → PPost base W b1 b2 ix s w (s.2 ++ [p]) (.returned (.tuple #[])) (w9.setCell ⟨b2, 0, none⟩ v')) := Lib.hid (fun cs w9 v' o1 o2 o3 => ⟨rfl, (v', s.2 ++ [p]), rfl, pinv_app HI.out HLp.out (HBv.out.alloc HBv.out.size _) o1 o2 o3⟩)
      obtain ⟨g1, g2⟩ := hR
      have g0 : b ≤ ix := by omega
      have d1 : decide (ix < m) = false := by simp; omega
      clear hL
      go_enter Tryz.func31, Tryz.ntmps31
      go_upto_region 1 with fail
      rw [HWV.out]
      go_wp2_with (first
        | (refine wpList_load_row rfl 75 _ rfl (w.heap.size + 1 + 1) rfl 75 vp (0, 0) _ R2.out Tryz.underlying75 rfl HIp.out ?_)
        | (refine wpList_buildSlice_row rfl 23 75 _ vp _ 32 rfl rfl Tryz.underlying23 Tryz.sizeOf75 Tryz.zeroValue75 rfl HZp.out (by omega) (by omega) ?_)
        | (refine wpList_append_list rfl _ _ 23 rfl base wv.heap.size 75 i0 _ 32 32 Tryz.underlying23 hi hz0 hz1 hz2 rfl (by omega) _ _ s.2.length 1 (hashCells s.2) (hashCells [p]) rfl rfl (HO.out vp) (own_one wv wv.heap.size vp p HLp.out HEp.out (Nat.le_refl _)) (hashCells_cell _) (by unfold maxLen; omega) (by omega) (HBB.out _) ?_; intro v' w9 hown hgrow hblk; obtain ⟨A9, c9, rfl, hc9⟩ := own_shape hown; have HN9 := Lib.hid (And.intro hown (And.intro hgrow hblk)); have e9 := hgrow.block b2 (by have := HSV.out; simp; omega) HNE.out; have c5 : w9.cell? ⟨b2, 0, none⟩ = some s.1 := cell_block e9 (HCO.out vp); have f5 : w9.frozen? ⟨b2, 0, none⟩ = false := frozen_block e9 (HFO.out vp); clear hown hgrow hblk e9))
      go_end0
      exact HFIN.out _ w9 _ HN9.out.1 HN9.out.2.1 HN9.out.2.2
    · rw [if_neg hL, if_neg hR]
      have hfin : PPost base W b1 b2 ix s w s.2 (.returned (.tuple #[])) wv := ⟨rfl, s, rfl, (pnoted base W b1 b2 ix hbW).keep s w wv HI.out HBv.out.size (fun k q => HBv.out.block k ((pnoted base W b1 b2 ix hbW).low s w k HI.out q).2.1), But.new HBv.out, fun k q => .inl q⟩
      have HFIN := Lib.hid hfin
      clear hfin
      by_cases hx : ix < b
      · have d1 : decide (b ≤ ix) = false := by simp; omega
        have d2 : decide (m ≤ ix) = false := by simp; omega
        clear hL hR
        go_enter Tryz.func31, Tryz.ntmps31
        go_upto_region 1 with fail
        rw [HWV.out]
        go_wp2
        go_end0
        exact HFIN.out
      · have d1 : b ≤ ix := by omega
        have d2 : m ≤ ix := by omega
        have d3 : decide (ix < m) = false := by simp; omega
        have d4 : decide (ix < e) = false := by simp; omega
        clear hL hR hx
        go_enter Tryz.func31, Tryz.ntmps31
        go_upto_region 1 with fail
        rw [HWV.out]
        go_wp2
        go_end0
        exact HFIN.out
/-- the path of the leaf ix out of a proof -/
def pathB (x sz : Int) (L P : List (List UInt8)) (ix : Int) : List (List UInt8) := pathF nodeH 64 x (x + L.length) (leafAt x L) ix 0 sz P
theorem pathB_len (x sz : Int) (L P : List (List UInt8)) (ix : Int) : (pathB x sz L P ix).length ≤ 64 := pathF_len nodeH 64 _ _ _ _ _ _ _
set_option maxRecDepth 100000 in
set_option maxHeartbeats 4000000 in
theorem bpath_bad (a : Nat → Addr) (B : Nat) (x sz ix : Int) (lA pA : Option Addr) (n m lcap pcap : Nat) (w : World) (hE : Env B a w) (hx0 : 0 ≤ x) (hx1 : x < 18446744073709551616) (hs0 : 0 ≤ sz) (hs1 : sz < 18446744073709551616) (hn : n ≤ 9223372036854775807) (hm : m ≤ 9223372036854775807) (k : Nat) (hk : batchK x sz n m = k) (hk0 : k ≠ 0) :
    Calls Tryz.prog 8 #[.int .u64 x, .int .u64 sz, .slice lA n lcap, .slice pA m pcap, .int .u64 ix] w (FailPost (errV a k) w) := by
  have hBa : Hid (Below w.heap.size w (w.alloc (.cells #[.int .u64 ix] 22))) := Lib.hid ((Below.refl _ _).alloc (Nat.le_refl _) _)
  have hst := start_bad a B x sz lA pA n m lcap pcap (w.alloc (.cells #[.int .u64 ix] 22)) (hE.alloc _) hx0 hx1 hs0 hs1 hn hm k hk hk0
  have HZ : Hid (w.heap.size ≤ (w.alloc (.cells #[.int .u64 ix] 22)).heap.size) := Lib.hid (by simp)
  unfold errV at hst ⊢
  clear hE hk
  go_enter Tryz.func8, Tryz.ntmps8
  go_wp2_with fail
  refine hst.mono ?_
  rintro ev w1 ⟨rfl, hb⟩
  have HB := Lib.hid (hBa.out.trans (hb.mono HZ.out))
  clear hst hb
  go_wp2
  refine bodyPost_ret (v := .tuple #[.slice none 0 0, .iface 320 (.pointer (some (a k)))]) (by simp [results, Tryz.results8, go_sem]) rfl ⟨rfl, HB.out⟩
set_option maxRecDepth 100000 in
set_option maxHeartbeats 4000000 in
theorem bpath_off (a : Nat → Addr) (B : Nat) (x sz ix : Int) (lA pA : Option Addr) (n m lcap pcap : Nat) (w : World) (hE : Env B a w) (hx0 : 0 ≤ x) (hx1 : x < 18446744073709551616) (hs0 : 0 ≤ sz) (hs1 : sz < 18446744073709551616) (hn : n ≤ 9223372036854775807) (hm : m ≤ 9223372036854775807) (hk : batchK x sz n m = 0)
    (hi0 : 0 ≤ ix) (hi1 : ix < 18446744073709551616) (ho : ix < x ∨ (n : Int) ≤ ix - x) :
    Calls Tryz.prog 8 #[.int .u64 x, .int .u64 sz, .slice lA n lcap, .slice pA m pcap, .int .u64 ix] w (FailPost (errV a 5) w) := by
  have hBa : Hid (Below w.heap.size w (w.alloc (.cells #[.int .u64 ix] 22))) := Lib.hid ((Below.refl _ _).alloc (Nat.le_refl _) _)
  have hst := start_ok x sz lA pA n m lcap pcap (w.alloc (.cells #[.int .u64 ix] 22)) hx0 hx1 hs0 hs1 hn hm hk
  have HE := Lib.hid hE
  have HZ : Hid (w.heap.size ≤ (w.alloc (.cells #[.int .u64 ix] 22)).heap.size ∧ w.heap.size < (w.alloc (.cells #[.int .u64 ix] 22)).heap.size) := Lib.hid (by simp)
  have HC := Lib.hid (cell_new (w := w) #[.int .u64 ix] 22 0 _ rfl)
  have hn8 : (n : Int) < 18446744073709551616 := by omega
  unfold errV
  clear hE hk
  have hst' := Lib.hid hst
  have HO := Lib.hid ho
  clear hst hn hm ho
  by_cases h1 : ix < x
  all_goals
    have hst := hst'.out
    (try (have h2 : x ≤ ix := by omega))
    (try (have h3 : (n : Int) ≤ ix - x := by have := HO.out; omega))
    go_enter Tryz.func8, Tryz.ntmps8
    go_wp2_with fail
    refine hst.mono ?_
    rintro ev w1 ⟨W, rfl, _, _, hb⟩
    have HB := Lib.hid (hBa.out.trans (hb.mono HZ.out.1))
    have c9 := cell_below hb HC.out HZ.out.2
    have he5 := (HE.out.step HB.out).laid.e5
    unfold errV at he5
    clear hst hb
    go_wp2
    go_quiet (fail)
    go_wp2
    refine bodyPost_ret (v := .tuple #[.slice none 0 0, .iface 320 (.pointer (some (a 5)))]) (by simp [results, Tryz.results8, go_sem]) rfl ⟨rfl, ?_⟩
    exact below_drewN HB.out
set_option maxRecDepth 100000 in
set_option maxHeartbeats 4000000 in
theorem bpath_ok (a : Nat → Addr) (B : Nat) (x sz ix : Int) (lA pA : Option Addr) (lcap pcap : Nat) (L P : List (List UInt8)) (w : World) (hE : Env B a w) (hl : HIn w lA L.length lcap L) (hp : HIn w pA P.length pcap P) (hx0 : 0 ≤ x) (hx1 : x < 18446744073709551616) (hs0 : 0 ≤ sz) (hs1 : sz < 18446744073709551616) (hk : batchK x sz L.length P.length = 0)
    (hi0 : x ≤ ix) (hi1 : ix - x < (L.length : Int)) :
    Calls Tryz.prog 8 #[.int .u64 x, .int .u64 sz, .slice lA L.length lcap, .slice pA P.length pcap, .int .u64 ix] w (HashesPost w (pathB x sz L P ix)) := by
  have h3 : ¬ (9223372036854775808 < sz ∨ sz < x ∨ sz - x < L.length) ∧ (batchL 64 x (x + L.length) 0 sz).length ≤ P.length := by
    unfold batchK at hk
    split at hk
    · cases hk
    · split at hk
      · cases hk
      · rename_i h3
        refine ⟨h3, Nat.le_of_not_lt fun h4 => ?_⟩
        rw [if_pos (by omega)] at hk; cases hk
  have hBa : Hid (Below w.heap.size w (w.alloc (.cells #[.int .u64 ix] 22))) := Lib.hid ((Below.refl _ _).alloc (Nat.le_refl _) _)
  have hst := start_ok x sz lA pA L.length P.length lcap pcap (w.alloc (.cells #[.int .u64 ix] 22)) hx0 hx1 hs0 hs1 (by have := hl.2.2.1; have := hl.2.2.2.1; omega) (by have := hp.2.2.1; have := hp.2.2.2.1; omega) hk
  have HZ : Hid (w.heap.size ≤ (w.alloc (.cells #[.int .u64 ix] 22)).heap.size ∧ w.heap.size < (w.alloc (.cells #[.int .u64 ix] 22)).heap.size) := Lib.hid (by simp)
  have HR := Lib.hid (heap_at w (.cells #[.int .u64 ix] 22) w.heap.size rfl)
  have hn8 : (L.length : Int) < 18446744073709551616 := by omega
  have hst' := Lib.hid hst
  have HS := Lib.hid (And.intro hE (And.intro hl (And.intro hp (And.intro hk h3))))
  have hix : ix < 18446744073709551616 := by have := h3.1; omega
  have hix2 : 0 ≤ ix := by omega
  obtain ⟨n, hn⟩ : ∃ n, L.length = n := ⟨_, rfl⟩
  obtain ⟨m, hm⟩ : ∃ m, P.length = m := ⟨_, rfl⟩
  rw [hn] at hst' hn8 hi1 ⊢
  rw [hm] at hst' ⊢
  have HN := Lib.hid (And.intro hn (And.intro hm hi1))
  have hd : decide ((n : Int) ≤ ix - x) = false := by simp; omega
  have hd2 : ix - x < 18446744073709551616 := by omega
  have hwn : IntKind.u64.wrap (n : Int) = n := IntWalk.u64_in _ (by omega)
  clear hi1 hn8
  clear hst hE hl hp hk h3 hn hm
  have hst := hst'.out
  go_enter Tryz.func8, Tryz.ntmps8
  go_wp2_with fail
  refine hst.mono ?_
  rintro ev w1 ⟨W, rfl, hW1, hW2, hb⟩
  have HB := Lib.hid (hBa.out.trans (hb.mono HZ.out.1))
  have HR1 := Lib.hid ((hb.block _ HZ.out.2).trans HR.out)
  have c9 : w1.cell? ⟨w.heap.size, 0, none⟩ = some (.int .u64 ix) := by rw [cell_of_row w1 w.heap.size 0 _ 22 (0, 0) HR1.out]; rfl
  have hWl : W < w1.heap.size := (Array.getElem?_eq_some_iff.1 hW2).1
  have c3 : w1.cell? ⟨W, 3, none⟩ = some (.func (.func 110) #[] #[]) := by rw [cell_of_row w1 W 3 _ 107 (0, 0) hW2]; rfl
  have f3 : w1.frozen? ⟨W, 3, none⟩ = false := frozen_of_row w1 W 3 _ 107 hW2
  have HW2 := Lib.hid hW2
  have HW1 := Lib.hid (And.intro hW1 HZ.out.2)
  clear hst hb hW1 hW2
  go_wp2_with fail
  obtain ⟨nt, hnt⟩ : ∃ nt : Value, .func (.func 31) #[] #[.pointer (some ⟨w.heap.size, 0, none⟩), .pointer (some ⟨w1.heap.size, 0, none⟩)] = nt := ⟨_, rfl⟩
  obtain ⟨wz, hwz⟩ : ∃ wz, ((w1.setCell ⟨W, 3, none⟩ (.func (.func 31) #[] #[.pointer (some ⟨w.heap.size, 0, none⟩), .pointer (some ⟨w1.heap.size, 0, none⟩)])).alloc (.cells #[.slice none 0 0] 23)) = wz := ⟨_, rfl⟩
  have hzs : wz.heap.size = w1.heap.size + 1 := by rw [← hwz]; simp
  have hzb : But (· = W) w1 wz := by rw [← hwz]; exact (but_setCell w1 W 3 _).alloc _
  have hzW : WalkAt wz W x (.slice lA L.length lcap) (.slice pA P.length pcap) (.func (.func 31) #[] #[.pointer (some ⟨w.heap.size, 0, none⟩), .pointer (some ⟨w1.heap.size, 0, none⟩)]) := by
    unfold WalkAt
    rw [← hwz, ((Below.refl _ _).alloc (Nat.le_refl _) _).block W (by simp; exact hWl), HN.out.1, HN.out.2.1]
    have := heap_setCell_same w1 W 3 _ _ (.func (.func 31) #[] #[.pointer (some ⟨w.heap.size, 0, none⟩), .pointer (some ⟨w1.heap.size, 0, none⟩)]) HW2.out
    simpa using this
  have hz2 : wz.heap[w1.heap.size]? = some (.cells #[.slice none 0 0] 23 (0, 0)) := by
    rw [← hwz]; exact heap_at _ _ _ (by simp)
  have hz1 : wz.heap[w.heap.size]? = some (.cells #[.int .u64 ix] 22 (0, 0)) := (hzb.same _ (by have := HB.out.size; have := (Array.getElem?_eq_some_iff.1 HR1.out).1; omega) (by have := HW1.out; simp at this; omega)).trans HR1.out
  have hzB : Below w.heap.size w wz := HB.out.trans (hzb.to_below HB.out.size (fun k hk q => by have := HW1.out; simp at this; omega))
  rw [hwz]
  have hbs := (bsaysPath w.heap.size w1.heap.size w.heap.size W x lA L lcap (PInv w.heap.size W w.heap.size w1.heap.size ix) (PT w.heap.size w1.heap.size) Prod.snd (pathStep ix) (fun o => o.length ≤ 1000)
    (fun o b m e p q h => by
      unfold pathStep at h
      split at h
      · rw [List.length_append] at h; omega
      · split at h
        · rw [List.length_append] at h; omega
        · exact h)
    HS.out.2.1.1 hx0 HS.out.2.1.2.2.1 HS.out.2.1.2.2.2.1 (Nat.lt_of_lt_of_le HS.out.1.low HS.out.1.laid.size) (by have := HW1.out; simp at this; omega) (pnoted _ _ _ _ _ (by have := HW1.out; simp at this; omega)) (pnote_ok _ _ _ _ _ (by have := HW1.out; simp at this; omega) hix2 hix) 64)
    0 sz pA pcap P wz ((.slice none 0 0 : Value), []) ⟨hzW, HS.out.2.1.at.same (fun g hg _ => hzB.block g hg) HS.out.2.1.1, HS.out.2.2.1.at.same (fun g hg _ => hzB.block g hg) HS.out.2.2.1.1, HS.out.2.2.1.1, HS.out.2.2.1.2.2.1, HS.out.2.2.1.2.2.2.1, (HS.out.1.step hzB).tab,
      by omega, Nat.le_refl _, HB.out.size, by have := HW1.out; simp at this; omega, by omega, by have := (Array.getElem?_eq_some_iff.1 HR1.out).1; omega, hz1, hz2, World.ownsRow_nil _ _ _ _, H32.nil, by simp [Value.ownBlock], by simp [Value.ownBlock], by simp [Value.ownBlock]⟩
    (by omega) (by have := HS.out.2.2.2.2.1; have := HN.out.2.2; have := HN.out.1; omega) (by have := HS.out.2.2.2.2.1; omega) (by have := HS.out.2.2.2.2.1; rw [pow2_64]; omega) HS.out.2.2.2.2.2
    (by rw [noteF_path nodeH 64 _ _ _ ix 0 sz P [] (by omega) (by have := HS.out.2.2.2.2.1; have := HN.out.2.2; have := HN.out.1; omega) hi0 (by have := HN.out.2.2; have := HN.out.1; omega) (by have := HS.out.2.2.2.2.1; rw [pow2_64]; omega)]; have := pathB_len x sz L P ix; unfold pathB at this; simp; omega)
  rw [noteF_path nodeH 64 _ _ _ ix 0 sz P [] (by omega) (by have := HS.out.2.2.2.2.1; have := HN.out.2.2; have := HN.out.1; omega) hi0 (by have := HN.out.2.2; have := HN.out.1; omega) (by have := HS.out.2.2.2.2.1; rw [pow2_64]; omega), List.nil_append] at hbs
  refine hbs.mono ?_
  rintro ev w2 ⟨rfl, _, _, _, s2, hS2, hab, hF⟩
  obtain ⟨_, _, _, _, _, _, _, g0, g1, g2, g3, g4, g5, g6, g7, g8, g9, g10, g11, g12⟩ := hS2
  have hab' : s2.2 = pathB x sz L P ix := hab
  rw [hab'] at g8 g9
  have hB2 : Below w.heap.size w w2 := hzB.trans (hF.1.to_below hzB.size (fun k hk q => by
    rcases q with q | q | q | q
    · have := HW1.out; simp at this; omega
    · omega
    · have := HB.out.size; omega
    · simp [Value.ownBlock] at q))
  obtain ⟨A2, c2, hA2, hc2⟩ := own_shape g8
  rw [hA2] at g7 g8
  have cout : w2.cell? ⟨w1.heap.size, 0, none⟩ = some (.slice A2 (pathB x sz L P ix).length c2) := by rw [cell_of_row w2 w1.heap.size 0 _ 23 (0, 0) g7]; rfl
  have HX := Lib.hid (And.intro g8 (And.intro g9 hB2))
  clear hbs g0 g1 g2 g3 g4 g5 g6 g7 g8 g9 g10 g11 g12 hab hab' hF hA2 hB2 hzs hzb hzW hz2 hz1 hzB hnt hwz
  go_wp2
  refine bodyPost_ret (v := .tuple #[.slice A2 (pathB x sz L P ix).length c2, .nilIface]) (by simp [results, Tryz.results8, go_sem]) rfl ⟨HX.out.2.1, _, rfl, HX.out.1, HX.out.2.2⟩
end Go.Proofs.YtchfbdbgmlcfiaaGreatDoor
