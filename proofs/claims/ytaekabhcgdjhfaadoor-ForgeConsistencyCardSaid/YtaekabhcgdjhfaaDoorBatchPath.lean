import Derived.Test.YtaekabhcgdjhfaaDoorBatchApi
import Derived.Test.YtaekabhcgdjhfaaDoorBatchNodeP
/- batch.Verify. Condition: the package-level variables read as listed. -/
namespace Go.Proofs.YtaekabhcgdjhfaaDoor
open Go.ChangeShapes Go.WideShapes Go.ChangeAt Go.RowKit
set_option linter.unusedVariables false
set_option maxRecDepth 100000 in
set_option maxHeartbeats 4000000 in
theorem verify_bad (a : Nat → Addr) (B : Nat) (x sz : Int) (lA pA : Option Addr) (n m lcap pcap : Nat) (t : List UInt8) (ht : t.length = 32) (w : World) (hE : Env B a w) (hx0 : 0 ≤ x) (hx1 : x < 18446744073709551616) (hs0 : 0 ≤ sz) (hs1 : sz < 18446744073709551616) (hn : n ≤ 9223372036854775807) (hm : m ≤ 9223372036854775807) (k : Nat) (hk : batchK x sz n m = k) (hk0 : k ≠ 0) :
    Calls Tryd.prog 21 #[.int .u64 x, .int .u64 sz, .slice lA n lcap, .slice pA m pcap, hv t] w fun ev w' => ev = .returned (errV a k) ∧ Below w.heap.size w w' := by
  obtain ⟨vt, hvt⟩ : ∃ vt, (bytesV t).toArray = vt := ⟨_, rfl⟩
  have hvt' : hv t = .agg vt := by rw [hv, hvt]
  have HVT := Lib.hid hvt
  rw [hvt']
  have HZt := Lib.hid (show vt.size = 32 by rw [← hvt]; simp [bytesV_length, ht])
  have HIt := Lib.hid (show (Tryd.prog.info? 34).map (·.size) = some vt.size by rw [HZt.out]; kernel_rfl)
  have hit : (Tryd.prog.info? 34).map (·.size) = some vt.size := HIt.out
  have hot : vt.all (·.oneCell') = true := by rw [← hvt]; exact bytesV_all _
  have HG := Lib.hid (heap_at w (.cells vt 34) w.heap.size rfl)
  have HBa : Hid (Below w.heap.size w (w.alloc (.cells vt 34))) := Lib.hid ((Below.refl _ _).alloc (Nat.le_refl _) _)
  have hsw : w.heap.size < (w.alloc (.cells vt 34)).heap.size := by simp
  obtain ⟨wa, hwa⟩ : ∃ wa, w.alloc (.cells vt 34) = wa := ⟨_, rfl⟩
  rw [hwa] at HG HBa hsw
  have HWA := Lib.hid hwa
  have hst := root_bad a B x sz lA pA n m lcap pcap wa (hE.step HBa.out) hx0 hx1 hs0 hs1 hn hm k hk hk0
  rw [zeroH_v] at hst
  obtain ⟨zv, hz⟩ : ∃ zv, (List.replicate 32 (Value.int .u8 0)).toArray = zv := ⟨_, rfl⟩
  rw [hz] at hst
  have HZ : Hid (zv.size = 32) := Lib.hid (by rw [← hz]; simp)
  have HI := Lib.hid (show (Tryd.prog.info? 34).map (·.size) = some zv.size by rw [HZ.out]; kernel_rfl)
  have HO := Lib.hid (show zv.all (·.oneCell') = true by rw [← hz]; kernel_rfl)
  unfold errV at hst ⊢
  clear hE hk hwa hz hvt hvt'
  go_enter Tryd.func21, Tryd.ntmps21
  go_wp2_with fail
  rw [HWA.out]
  refine hst.mono ?_
  rintro ev w1 ⟨rfl, hb⟩
  have HB := Lib.hid (HBa.out.trans (hb.mono (by omega)))
  clear hst hb
  go_wp2_with (first
    | (refine wpList_store_row rfl 34 _ _ rfl w1.heap.size zv rfl rfl 34 _ (heap_at _ _ _ rfl) HI.out (by rw [HZ.out]; rfl) HO.out ?_))
  go_ret
  exact ⟨rfl, below_setRow (HB.out.alloc HB.out.size _) _ _ HB.out.size⟩
set_option maxRecDepth 100000 in
set_option maxHeartbeats 4000000 in
theorem verify_ok (a : Nat → Addr) (B : Nat) (x sz : Int) (lA pA : Option Addr) (lcap pcap : Nat) (L P : List (List UInt8)) (t : List UInt8) (ht : t.length = 32) (w : World) (hE : Env B a w) (hl : HIn w lA L.length lcap L) (hp : HIn w pA P.length pcap P) (hx0 : 0 ≤ x) (hx1 : x < 18446744073709551616) (hs0 : 0 ≤ sz) (hs1 : sz < 18446744073709551616) (hk : batchK x sz L.length P.length = 0) :
    Calls Tryd.prog 21 #[.int .u64 x, .int .u64 sz, .slice lA L.length lcap, .slice pA P.length pcap, hv t] w fun ev w' => ev = .returned (if rootB x sz L P = t then .nilIface else errV a 10) ∧ Below w.heap.size w w' := by
  obtain ⟨vt, hvt⟩ : ∃ vt, (bytesV t).toArray = vt := ⟨_, rfl⟩
  have hvt' : hv t = .agg vt := by rw [hv, hvt]
  have HVT := Lib.hid hvt
  rw [hvt']
  have HZt := Lib.hid (show vt.size = 32 by rw [← hvt]; simp [bytesV_length, ht])
  have HIt := Lib.hid (show (Tryd.prog.info? 34).map (·.size) = some vt.size by rw [HZt.out]; kernel_rfl)
  have hit : (Tryd.prog.info? 34).map (·.size) = some vt.size := HIt.out
  have hot : vt.all (·.oneCell') = true := by rw [← hvt]; exact bytesV_all _
  have HG := Lib.hid (heap_at w (.cells vt 34) w.heap.size rfl)
  have HBa : Hid (Below w.heap.size w (w.alloc (.cells vt 34))) := Lib.hid ((Below.refl _ _).alloc (Nat.le_refl _) _)
  have hsw : w.heap.size < (w.alloc (.cells vt 34)).heap.size := by simp
  obtain ⟨wa, hwa⟩ : ∃ wa, w.alloc (.cells vt 34) = wa := ⟨_, rfl⟩
  rw [hwa] at HG HBa hsw
  have HWA := Lib.hid hwa
  have HE := Lib.hid (hE.step HBa.out)
  have hst := root_ok a B x sz lA pA lcap pcap L P wa HE.out (hl.below HBa.out) (hp.below HBa.out) hx0 hx1 hs0 hs1 hk
  obtain ⟨r, hr⟩ : ∃ r, rootB x sz L P = r := ⟨_, rfl⟩
  rw [hr] at hst ⊢
  obtain ⟨vr, hvr⟩ : ∃ vr, (bytesV r).toArray = vr := ⟨_, rfl⟩
  have hvr' : hv r = .agg vr := by rw [hv, hvr]
  rw [hvr'] at hst
  have HVR := Lib.hid (And.intro hvr' hvt')
  have HO := Lib.hid (show vr.all (·.oneCell') = true by rw [← hvr]; exact bytesV_all _)
  have HT := Lib.hid ht
  clear hE hk hwa hvt hvt' hr hvr hvr' hl hp ht
  by_cases hrt : r = t
  · rw [if_pos hrt]
    have HRT := Lib.hid hrt
    clear hrt
    go_enter Tryd.func21, Tryd.ntmps21
    go_wp2_with fail
    rw [HWA.out]
    refine hst.mono ?_
    rintro ev w1 ⟨rfl, hrl, hb⟩
    have hq : ∀ w, (Op.equalIn 10000 34 (.agg vr) (.agg vt)).run Tryd.prog w = .ok true w := fun w => by rw [eq_hash r t hrl HT.out vr vt HVR.out.1 HVR.out.2 w]; simp [HRT.out]
    have HZ : Hid (vr.size = 32) := Lib.hid (by have := HVR.out.1; rw [hv] at this; injection this with this; rw [← this]; simp [bytesV_length, hrl])
    have HI := Lib.hid (show (Tryd.prog.info? 34).map (·.size) = some vr.size by rw [HZ.out]; kernel_rfl)
    have HG1 := Lib.hid ((hb.block _ hsw).trans HG.out)
    have HB := Lib.hid (HBa.out.trans (hb.mono (by omega)))
    have HS1 := Lib.hid (show w.heap.size < w1.heap.size by have := hb.size; omega)
    clear hst hb hrl
    go_wp2_with (first
      | (refine wpList_store_row_any rfl 34 _ _ rfl w1.heap.size vr rfl rfl 34 _ (heap_at _ _ _ rfl) HI.out (by rw [HZ.out]; rfl) HO.out ?_; intro w5 hb5 hg5 hs5; have HB5 := Lib.hid (((Below.refl _ w1).alloc (Nat.le_refl _) _).trans (hb5.to_below (by simp) (fun k hk q => by omega))); have HG5 := Lib.hid hg5; clear hb5 hg5 hs5)
      | (refine wpList_load_row_g rfl 34 _ rfl w1.heap.size rfl 34 vr (0, 0) _ HG5.out Tryd.underlying34 rfl HI.out ?_)
      | (refine wpList_load_row_g rfl 34 _ rfl w.heap.size rfl 34 vt (0, 0) _ ((HB5.out.block _ HS1.out).trans HG1.out) Tryd.underlying34 rfl HIt.out ?_))
    go_ret
    exact ⟨rfl, HB.out.trans (HB5.out.mono HB.out.size)⟩
  · rw [if_neg hrt]
    have he10 := HE.out.laid.e10
    have hg10 : 0 < wa.heap.size := block_of_cell he10
    have HRT := Lib.hid hrt
    unfold errV at he10 ⊢
    have HE10 := Lib.hid (And.intro he10 hg10)
    clear hrt he10 hg10
    go_enter Tryd.func21, Tryd.ntmps21
    go_wp2_with fail
    rw [HWA.out]
    refine hst.mono ?_
    rintro ev w1 ⟨rfl, hrl, hb⟩
    have hq : ∀ w, (Op.equalIn 10000 34 (.agg vr) (.agg vt)).run Tryd.prog w = .ok false w := fun w => by rw [eq_hash r t hrl HT.out vr vt HVR.out.1 HVR.out.2 w]; simp [HRT.out]
    have HZ : Hid (vr.size = 32) := Lib.hid (by have := HVR.out.1; rw [hv] at this; injection this with this; rw [← this]; simp [bytesV_length, hrl])
    have HI := Lib.hid (show (Tryd.prog.info? 34).map (·.size) = some vr.size by rw [HZ.out]; kernel_rfl)
    have HG1 := Lib.hid ((hb.block _ hsw).trans HG.out)
    have HB := Lib.hid (HBa.out.trans (hb.mono (by omega)))
    have HS1 := Lib.hid (show w.heap.size < w1.heap.size by have := hb.size; omega)
    have HE1 := Lib.hid (cell_below hb HE10.out.1 HE10.out.2)
    have HL1 := Lib.hid (show 0 < w1.heap.size by have := hb.size; have := HE10.out.2; omega)
    clear hst hb hrl
    go_wp2_with (first
      | (refine wpList_store_row_any rfl 34 _ _ rfl w1.heap.size vr rfl rfl 34 _ (heap_at _ _ _ rfl) HI.out (by rw [HZ.out]; rfl) HO.out ?_; intro w5 hb5 hg5 hs5; have HB5 := Lib.hid (((Below.refl _ w1).alloc (Nat.le_refl _) _).trans (hb5.to_below (by simp) (fun k hk q => by omega))); have HG5 := Lib.hid hg5; have e10 := cell_below HB5.out HE1.out HL1.out; clear hb5 hg5 hs5)
      | (refine wpList_load_row_g rfl 34 _ rfl w1.heap.size rfl 34 vr (0, 0) _ HG5.out Tryd.underlying34 rfl HI.out ?_)
      | (refine wpList_load_row_g rfl 34 _ rfl w.heap.size rfl 34 vt (0, 0) _ ((HB5.out.block _ HS1.out).trans HG1.out) Tryd.underlying34 rfl HIt.out ?_))
    go_ret
    exact ⟨rfl, HB.out.trans (HB5.out.mono HB.out.size)⟩
end Go.Proofs.YtaekabhcgdjhfaaDoor

/- batch.Path: the closure that notes a leaf's siblings; Path. Condition: the package-level variables read as listed. -/
namespace Go.Proofs.YtaekabhcgdjhfaaDoor
open Go.ChangeShapes Go.WideShapes Go.ChangeAt Go.RowKit
set_option linter.unusedVariables false
/-- the state of who asks for a path: the slice that its box holds, and the hashes in it -/
abbrev PathSt := Value × List (List UInt8)
def PInv (base W b1 b2 : Nat) (ix : Int) (s : PathSt) (w : World) : Prop :=
  W < w.heap.size ∧ base ≤ b1 ∧ base ≤ b2 ∧ b1 ≠ W ∧ b2 ≠ W ∧ b1 ≠ b2 ∧ w.heap[b1]? = some (.cells #[.int .u64 ix] 23 (0, 0)) ∧ w.heap[b2]? = some (.cells #[s.1] 24 (0, 0)) ∧
    w.ownsRow base 34 32 s.1 s.2.length (hashCells s.2) ∧ H32 s.2 ∧ s.1.ownBlock ≠ some W ∧ s.1.ownBlock ≠ some b1 ∧ s.1.ownBlock ≠ some b2
def PT (b1 b2 : Nat) (s : PathSt) (k : Nat) : Prop := k = b1 ∨ k = b2 ∨ s.1.ownBlock = some k
theorem pnoted (base W b1 b2 : Nat) (ix : Int) (hbW : base ≤ W) : Noted (β := List (List UInt8)) base W (PInv base W b1 b2 ix) (PT b1 b2) Prod.snd := by
  constructor
  · rintro s w k ⟨h0, h1, h2, h3, h4, h5, h6, h7, h8, h9, h10, h11, h12⟩ (rfl | rfl | q)
    · exact ⟨h1, (Array.getElem?_eq_some_iff.1 h6).1, h3⟩
    · exact ⟨h2, (Array.getElem?_eq_some_iff.1 h7).1, h4⟩
    · have := h8.lt k q
      exact ⟨this.1, this.2, fun e => h10 (by rw [← e]; exact q)⟩
  · rintro s w w' ⟨h0, h1, h2, h3, h4, h5, h6, h7, h8, h9, h10, h11, h12⟩ hsz hk
    refine ⟨by omega, h1, h2, h3, h4, h5, (hk b1 (.inl rfl)).trans h6, (hk b2 (.inr (.inl rfl))).trans h7, ?_, h9, h10, h11, h12⟩
    refine ⟨h8.1, ?_⟩
    rcases h8.2 with hn | ⟨g, cap, cur, e1, hb', hgg, rest⟩
    · exact .inl hn
    · exact .inr ⟨g, cap, cur, e1, hb', (hk g (.inr (.inr (by rw [e1]; rfl)))).trans hgg, rest⟩
theorem pinv_app {base W b1 b2 : Nat} {ix : Int} {s : PathSt} {w wz w9 : World} {p : List UInt8} {v' : Value} (hI : PInv base W b1 b2 ix s w) (hp : p.length = 32) (hB : Below w.heap.size w wz)
    (hown : w9.ownsRow base 34 32 v' (s.2.length + 1) (hashCells s.2 ++ hashCells [p])) (hgrow : wz.grownBy w9 s.1.ownBlock) (hblk : v'.ownBlock = s.1.ownBlock ∨ v'.ownBlock = some wz.heap.size) :
    PInv base W b1 b2 ix (v', s.2 ++ [p]) (w9.setCell ⟨b2, 0, none⟩ v') ∧ But (PT b1 b2 s) w (w9.setCell ⟨b2, 0, none⟩ v') ∧ ∀ k, PT b1 b2 (v', s.2 ++ [p]) k → PT b1 b2 s k ∨ w.heap.size ≤ k := by
  obtain ⟨h0, h1, h2, h3, h4, h5, h6, h7, h8, h9, h10, h11, h12⟩ := hI
  have l1 : b1 < w.heap.size := (Array.getElem?_eq_some_iff.1 h6).1
  have l2 : b2 < w.heap.size := (Array.getElem?_eq_some_iff.1 h7).1
  have hz := hB.size
  have e1 : w9.heap[b1]? = some (.cells #[.int .u64 ix] 23 (0, 0)) := (hgrow.block b1 (by omega) (fun e => h11 e.symm)).trans ((hB.block b1 l1).trans h6)
  have e2 : w9.heap[b2]? = some (.cells #[s.1] 24 (0, 0)) := (hgrow.block b2 (by omega) (fun e => h12 e.symm)).trans ((hB.block b2 l2).trans h7)
  have hne : ∀ k, k < w.heap.size → s.1.ownBlock ≠ some k → v'.ownBlock ≠ some k := fun k hk hs e => by
    rcases hblk with q | q
    · exact hs (q ▸ e)
    · rw [q] at e; cases e; omega
  refine ⟨⟨by have := hgrow.size; simp; omega, h1, h2, h3, h4, h5, (heap_setCell_other _ _ _ _ h5).trans e1, heap_setCell_same _ _ _ _ _ _ e2, ?_, h9.append (H32.one hp), hne W h0 h10, hne b1 l1 h11, hne b2 l2 h12⟩, ?_, ?_⟩
  · rw [hashCells_append, List.length_append]
    exact own_setCell hown (fun e => hne b2 l2 h12 e.symm) _
  · exact ((But.new hB).grown hgrow (fun r hr _ => .inr (.inr hr))).setCell b2 0 _ (fun _ => .inr (.inl rfl))
  · rintro k (q | q | q)
    · exact .inl (.inl q)
    · exact .inl (.inr (.inl q))
    · rcases hblk with e | e
      · exact .inl (.inr (.inr (e ▸ q)))
      · rw [e] at q; cases q; exact .inr hz
def PPost (base W b1 b2 : Nat) (ix : Int) (s : PathSt) (w : World) (o : List (List UInt8)) (ev : Ending) (w' : World) : Prop :=
  ev = .returned (.tuple #[]) ∧ ∃ s' : PathSt, s'.2 = o ∧ PInv base W b1 b2 ix s' w' ∧ But (PT b1 b2 s) w w' ∧ ∀ k, PT b1 b2 s' k → PT b1 b2 s k ∨ w.heap.size ≤ k
/-- the path of the leaf ix out of a proof -/
def pathB (x sz : Int) (L P : List (List UInt8)) (ix : Int) : List (List UInt8) := pathF nodeH 64 x (x + L.length) (leafAt x L) ix 0 sz P
theorem pathB_len (x sz : Int) (L P : List (List UInt8)) (ix : Int) : (pathB x sz L P ix).length ≤ 64 := pathF_len nodeH 64 _ _ _ _ _ _ _
end Go.Proofs.YtaekabhcgdjhfaaDoor

