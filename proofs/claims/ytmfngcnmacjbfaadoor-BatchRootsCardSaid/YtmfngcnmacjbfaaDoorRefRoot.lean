import Derived.Test.YtmfngcnmacjbfaaDoorRefSays
import Derived.Test.YtmfngcnmacjbfaaDoorRefWrong
/- cartularyref19.Root: the fault, or the root. No condition. -/
namespace Go.Proofs.YtmfngcnmacjbfaaDoor
open Go.ChangeShapes Go.WideShapes Go.ChangeAt Go.RowKit
set_option linter.unusedVariables false
theorem results_row_row {P : Program} {fn : Func} {p q : Tmp} {ty ty2 : TypeId} (h : fn.results = #[.cell p ty, .cell q ty2]) (tmps : Array Value) (w : World) (g g2 : Nat) (t t2 : TypeId) (cs cs2 : Array Value) (fr fr2 : Nat × Nat) (d d2 : TypeDesc)
    (hp : tmps.getD p undef = .pointer (some ⟨g, 0, none⟩)) (hg : w.heap[g]? = some (.cells cs t fr)) (hp2 : tmps.getD q undef = .pointer (some ⟨g2, 0, none⟩)) (hg2 : w.heap[g2]? = some (.cells cs2 t2 fr2))
    (hu : P.underlying ty = some d) (hd : (match d with | .struct _ | .array _ _ => true | _ => false) = true) (hi : (P.info? ty).map (·.size) = some cs.size)
    (hu2 : P.underlying ty2 = some d2) (hd2 : (match d2 with | .struct _ | .array _ _ => true | _ => false) = true) (hi2 : (P.info? ty2).map (·.size) = some cs2.size) :
    (results fn tmps).run P w = .ok (.tuple #[.agg cs, .agg cs2]) w := by
  rw [Array.getD_eq_getD_getElem?] at hp hp2
  simp only [results, h]
  simp [Sem.run_bind, hp, hp2, asAddr, run_loadVar_row w g t ty cs fr d hg hu hd hi, run_loadVar_row w g2 t2 ty2 cs2 fr2 d2 hg2 hu2 hd2 hi2, Result.andThen]
/-- a fault as a row of cells -/
theorem fault_of (k : Nat) : ∃ vf : Array Value, faultV k = .agg vf ∧ Hid (vf = #[.int .i64 k, .int .i64 (if k = 0 then 0 else -1)]) ∧ Hid (vf.size = 2) ∧ Hid ((Tryd.prog.info? 31).map (·.size) = some vf.size) ∧ Hid (vf.all (·.oneCell') = true) := by
  exact ⟨_, rfl, Lib.hid rfl, Lib.hid rfl, Lib.hid (by kernel_rfl), Lib.hid (by simp [Value.oneCell'])⟩
set_option maxRecDepth 100000 in
set_option maxHeartbeats 4000000 in
theorem refroot_bad (x sz : Int) (lA pA : Option Addr) (n m lcap pcap : Nat) (w : World) (hx0 : 0 ≤ x) (hx1 : x < 18446744073709551616) (hs0 : 0 ≤ sz) (hs1 : sz < 18446744073709551616) (hn : n ≤ 9223372036854775807) (hm : m ≤ 9223372036854775807) (hk0 : batchK x sz n m ≠ 0) :
    Calls Tryd.prog 14 #[.int .u64 x, .int .u64 sz, .slice lA n lcap, .slice pA m pcap] w fun ev w' => ev = .returned (.tuple #[hv zeroH, faultV (batchK x sz n m)]) ∧ Below w.heap.size w w' := by
  obtain ⟨vz, evz, Hvz, Zvz, Ivz, Ovz⟩ := row_of zeroH zeroH_length
  have HZV : Hid (vz = #[.int .u8 0, .int .u8 0, .int .u8 0, .int .u8 0, .int .u8 0, .int .u8 0, .int .u8 0, .int .u8 0, .int .u8 0, .int .u8 0, .int .u8 0, .int .u8 0, .int .u8 0, .int .u8 0, .int .u8 0, .int .u8 0, .int .u8 0, .int .u8 0, .int .u8 0, .int .u8 0, .int .u8 0, .int .u8 0, .int .u8 0, .int .u8 0, .int .u8 0, .int .u8 0, .int .u8 0, .int .u8 0, .int .u8 0, .int .u8 0, .int .u8 0, .int .u8 0]) := Lib.hid (by rw [zeroH_v] at evz; cases evz; rfl)
  obtain ⟨vf, evf, HVF, Zvf, Ivf, Ovf⟩ := fault_of (batchK x sz n m)
  have HFV : Hid (∀ w', Calls Tryd.prog 55 #[.int .u64 x, .int .u64 sz, .slice lA n lcap, .slice pA m pcap] w' fun ev w2 => ev = .returned (.agg vf) ∧ Below w'.heap.size w' w2) := Lib.hid (fun w' => by
    have := refwrong_any x sz lA pA n m lcap pcap w' hx0 hx1 hs0 hs1 hn hm
    rw [evf] at this; exact this)
  obtain ⟨wv, hwv⟩ : ∃ x, (w.alloc (.cells (List.replicate 32 (Value.int .u8 0)).toArray 29)).alloc (.cells #[.int .i64 0, .int .i64 0] 31) = x := ⟨_, rfl⟩
  have HBv : Hid (Below w.heap.size w wv) := Lib.hid (by rw [← hwv]; exact ((Below.refl _ _).alloc (Nat.le_refl _) _).alloc (by simp) _)
  have HSV : Hid (wv.heap.size = w.heap.size + 1 + 1) := Lib.hid (by rw [← hwv]; simp)
  have R8 : Hid (wv.heap[w.heap.size]? = some (.cells (List.replicate 32 (Value.int .u8 0)).toArray 29 (0, 0))) := Lib.hid (by rw [← hwv, ((Below.refl _ _).alloc (Nat.le_refl _) _).block _ (by simp)]; exact heap_at _ _ _ rfl)
  have R9 : Hid (wv.heap[(w.heap.size + 1)]? = some (.cells #[.int .i64 0, .int .i64 0] 31 (0, 0))) := Lib.hid (by rw [← hwv]; exact heap_at _ _ _ (by simp))
  have HWV := Lib.hid hwv
  simp only [List.replicate, List.toArray] at HWV
  have EVZ := Lib.hid evz
  have EVF := Lib.hid evf
  rw [evz, evf]
  have hkb : (((batchK x sz n m : Nat) : Int) != 0) = true := by simp; exact hk0
  obtain ⟨k, hk⟩ : ∃ k, batchK x sz n m = k := ⟨_, rfl⟩
  rw [hk] at hkb HVF
  have HK := Lib.hid hk
  clear hwv evz evf hx0 hx1 hs0 hs1 hn hm hk0 hk
  go_enter Tryd.func14, Tryd.ntmps14
  go_upto_region 1 with fail
  rw [HWV.out]
  go_wp2_with fail
  refine (HFV.out wv).mono ?_
  rintro ev w1 ⟨rfl, b1⟩
  have B1 := Lib.hid b1
  have HS1 : Hid (w.heap.size + 2 ≤ w1.heap.size) := Lib.hid (by have := b1.size; have := HSV.out; omega)
  clear b1
  go_upto_region 2 with (refine wpList_store_row_any rfl 31 _ _ rfl w1.heap.size vf rfl rfl 31 _ (heap_at _ _ _ rfl) Ivf.out (by rw [Zvf.out]; rfl) Ovf.out ?_; intro w2 hb2 hg2 hs2; have B2 := Lib.hid hb2; have RF0 := Lib.hid hg2; have HS2 : Hid (w2.heap.size = w1.heap.size + 1) := Lib.hid (hs2.trans (by simp)); clear hb2 hg2 hs2)
  have B12 : Hid (Below w1.heap.size w1 w2) := Lib.hid (((Below.refl _ _).alloc (Nat.le_refl _) _).trans (B2.out.to_below (by simp) (fun k hk q => by omega)))
  have HBY0 : Hid (Below w.heap.size w w2) := Lib.hid ((HBv.out.trans (B1.out.mono (by have := HSV.out; omega))).trans (B12.out.mono (by have := HS1.out; omega)))
  have R82 : Hid (w2.heap[w.heap.size]? = some (.cells (List.replicate 32 (Value.int .u8 0)).toArray 29 (0, 0))) := Lib.hid ((B12.out.block _ (by have := HS1.out; omega)).trans ((B1.out.block _ (by have := HSV.out; omega)).trans R8.out))
  have R92 : Hid (w2.heap[(w.heap.size + 1)]? = some (.cells #[.int .i64 0, .int .i64 0] 31 (0, 0))) := Lib.hid ((B12.out.block _ (by have := HS1.out; omega)).trans ((B1.out.block _ (by have := HSV.out; omega)).trans R9.out))
  have c10 : w2.cell? ⟨w1.heap.size, 0, none⟩ = some (.int .i64 k) := by rw [cell_of_row w2 w1.heap.size 0 _ 31 (0, 0) RF0.out, HVF.out]; rfl
  have hl10 : w1.heap.size < w2.heap.size := by have := HS2.out; omega
  go_upto_region 3 with fail
  obtain ⟨wy, hwy⟩ : ∃ x, w2 = x := ⟨_, rfl⟩
  rw [hwy]
  have HBY : Hid (Below w.heap.size w wy) := Lib.hid (by rw [← hwy]; exact HBY0.out)
  have R8y : Hid (wy.heap[w.heap.size]? = some (.cells (List.replicate 32 (Value.int .u8 0)).toArray 29 (0, 0))) := Lib.hid (by rw [← hwy]; exact R82.out)
  have R9y : Hid (wy.heap[(w.heap.size + 1)]? = some (.cells #[.int .i64 0, .int .i64 0] 31 (0, 0))) := Lib.hid (by rw [← hwy]; exact R92.out)
  have RF : Hid (wy.heap[w1.heap.size]? = some (.cells vf 31 (0, 0))) := Lib.hid (by rw [← hwy]; exact RF0.out)
  have h1w : w.heap.size + 2 ≤ w1.heap.size := HS1.out
  clear hwy c10 hl10
  refine wp_region_held_drew (S := But (fun k => k = w.heap.size ∨ k = w.heap.size + 1) wy) (by kernel_rfl) (But.refl _ _).drew (fun hHeld => ?_)
  refine wpAnyH_take (i := 0) (v := _) rfl (by kernel_rfl) (by kernel_rfl) (by kernel_rfl) (fun _ _ _ h => h) (show YieldsIf _ _ _ _ (.agg vz) _ from .inl ⟨by rfl, fun w h => by rw [HZV.out]; kernel_rfl⟩) (by assumption) ?_
  try simp only [Act.put, List.getElem_toArray, List.getElem_cons_zero, List.setIfInBounds_toArray, List.set_cons_zero, List.set_cons_succ]
  refine wpAnyH_take (i := 1) (v := _) rfl (by kernel_rfl) (by kernel_rfl) (by kernel_rfl) (fun _ _ _ h => h) (yieldsIf_load_row (by rfl) 31 _ (by rfl) w1.heap.size (by rfl) 31 vf (0, 0) _ (fun w h => (But.same h _ (Array.getElem?_eq_some_iff.1 RF.out).1 (by omega)).trans RF.out) Tryd.underlying31 rfl Ivf.out) (by assumption) ?_
  try simp only [Act.put, List.getElem_toArray, List.getElem_cons_zero, List.getElem_cons_succ, List.setIfInBounds_toArray, List.set_cons_zero, List.set_cons_succ]
  refine wpAnyH_ready (rs := [2]) (by kernel_rfl) (by simp) ?_
  refine AllReadyH.cons (i := 2) rfl (fun K2 hK2 => ?_) AllReadyH.nil
  rw [if_pos (by rfl)]
  refine wp_store_row 29 _ _ rfl w.heap.size vz rfl rfl 29 _ (R8y.out) Ivz.out (by rw [Zvz.out]; rfl) Ovz.out ?_
  refine hK2.out _ _ (show But (fun k => k = w.heap.size ∨ k = w.heap.size + 1) wy _ from ((But.refl (fun k => k = w.heap.size ∨ k = w.heap.size + 1) wy).drew.setRow w.heap.size vz (fun _ => by omega))) (fun hHeld2 => ?_)
  clear hK2 K2
  try simp only [Act.put, List.getElem_toArray, List.getElem_cons_zero, List.getElem_cons_succ]
  refine wpAnyH_ready (rs := [3]) (by kernel_rfl) (by simp) ?_
  refine AllReadyH.cons (i := 3) rfl (fun K2 hK2 => ?_) AllReadyH.nil
  rw [if_pos (by rfl)]
  refine wp_store_row 31 _ _ rfl (w.heap.size + 1) vf rfl rfl 31 _ ((setRow_other _ _ _ _ (by omega)).trans (R9y.out)) Ivf.out (by rw [Zvf.out]; rfl) Ovf.out ?_
  refine hK2.out _ _ (show But (fun k => k = w.heap.size ∨ k = w.heap.size + 1) wy _ from (((But.refl (fun k => k = w.heap.size ∨ k = w.heap.size + 1) wy).drew.setRow w.heap.size vz (fun _ => by omega)).setRow (w.heap.size + 1) vf (fun _ => by omega))) (fun hHeld2 => ?_)
  clear hK2 K2
  try simp only [Act.put, List.getElem_toArray, List.getElem_cons_zero, List.getElem_cons_succ]
  refine wpAnyH_done (by kernel_rfl) ?_ _
  clear hHeld
  go_wp2_with fail
  refine bodyPost_ret (v := .tuple #[.agg vz, .agg vf]) (results_row_row rfl _ _ w.heap.size (w.heap.size + 1) 29 31 vz vf (0, 0) (0, 0) _ _ rfl ((setRow_other _ _ _ _ (by omega)).trans (setRow_heap _ _ _ _ _ _ R8y.out)) rfl (setRow_heap _ _ _ _ _ _ ((setRow_other _ _ _ _ (by omega)).trans R9y.out)) Tryd.underlying29 rfl Ivz.out Tryd.underlying31 rfl Ivf.out) rfl ⟨rfl, ?_⟩
  exact below_setRow (below_setRow HBY.out.drew _ _ (by omega)) _ _ (by omega)

theorem root_len {x sz : Int} {L P : List (List UInt8)} (hl : H32 L) (hp : H32 P) (hs0 : 0 ≤ sz) (hx0 : 0 ≤ x) (hk0 : batchK x sz L.length P.length = 0) : (rootB x sz L P).length = 32 := by
  have hbk := hk0
  unfold batchK at hbk
  have hL0 : L.length ≠ 0 := fun e => by rw [if_pos e] at hbk; cases hbk
  rw [if_neg hL0] at hbk
  have hrg : ¬ (9223372036854775808 < sz ∨ sz < x ∨ sz - x < (L.length : Int)) := fun e => by rw [if_pos e] at hbk; cases hbk
  rw [if_neg hrg] at hbk
  have hbl : (batchL 64 x (x + L.length) 0 sz).length = P.length := Classical.not_not.1 (fun e => by rw [if_pos e] at hbk; cases hbk)
  exact sayF_len32 64 x L hl 0 sz P hp (by omega) (by omega) (by rw [pow2_64]; omega)
set_option maxRecDepth 100000 in
set_option maxHeartbeats 4000000 in
theorem refroot_ok (x sz : Int) (lA pA : Option Addr) (lcap pcap : Nat) (L P : List (List UInt8)) (w : World) (hl : HIn w lA L.length lcap L) (hp : HIn w pA P.length pcap P) (hx0 : 0 ≤ x) (hx1 : x < 18446744073709551616) (hs0 : 0 ≤ sz) (hs1 : sz < 18446744073709551616) (hk0 : batchK x sz L.length P.length = 0) :
    Calls Tryd.prog 14 #[.int .u64 x, .int .u64 sz, .slice lA L.length lcap, .slice pA P.length pcap] w fun ev w' => ev = .returned (.tuple #[hv (rootB x sz L P), faultV 0]) ∧ (rootB x sz L P).length = 32 ∧ Below w.heap.size w w' := by
  have hbk := hk0
  unfold batchK at hbk
  have hL0 : L.length ≠ 0 := fun e => by rw [if_pos e] at hbk; cases hbk
  rw [if_neg hL0] at hbk
  have hrg : ¬ (9223372036854775808 < sz ∨ sz < x ∨ sz - x < (L.length : Int)) := fun e => by rw [if_pos e] at hbk; cases hbk
  rw [if_neg hrg] at hbk
  have hbl : (batchL 64 x (x + L.length) 0 sz).length = P.length := Classical.not_not.1 (fun e => by rw [if_pos e] at hbk; cases hbk)
  have HL := Lib.hid hl
  have HP := Lib.hid hp
  have hn : L.length ≤ 9223372036854775807 := Nat.le_trans hl.2.2.1 hl.2.2.2.1
  have hm : P.length ≤ 9223372036854775807 := Nat.le_trans hp.2.2.1 hp.2.2.2.1
  have HA : Hid (0 < sz ∧ sz ≤ 9223372036854775808 ∧ 0 ≤ x ∧ 0 + (batchL 64 x (x + L.length) 0 sz).length ≤ P.length) := Lib.hid (by omega)
  have lr : (rootB x sz L P).length = 32 := root_len hl.1 hp.1 hs0 hx0 hk0
  obtain ⟨vr, evr, Hvr, Zvr, Ivr, Ovr⟩ := row_of (rootB x sz L P) lr
  have LR := Lib.hid lr
  have HSAY : Hid (∀ (W : Nat) (w' : World), Below w.heap.size w w' → w.heap.size ≤ W → GAt w' W x (.slice lA L.length lcap) (.slice pA P.length pcap) 0 → ∃ (fb : Bool) (vi : Array Value), Hid (vi.size = 32) ∧ Hid ((Tryd.prog.info? 29).map (·.size) = some vi.size) ∧ Hid (vi.all (·.oneCell') = true) ∧ Calls Tryd.prog 56 #[.pointer (some ⟨W, 0, none⟩), .agg #[.int .u64 0, .int .u64 sz], .agg #[.int .u64 0, .int .u64 0]] w' fun ev w2 => ev = .returned (.tuple #[.agg vr, .bool fb, .agg vi]) ∧ But (· = W) w' w2) := Lib.hid (fun W w' hb hW hG => by
    have hat : ∀ (A : Option Addr) (c : Nat) (l : List (List UInt8)), HIn w A l.length c l → HAt w' A w.heap.size l := fun A c l h => by
      by_cases hl0 : l = []
      · exact .inl hl0
      · obtain ⟨g, o, h1, h2⟩ := h.2.2.2.2.resolve_left hl0
        have hg := rangeAt_lt h2 (hashCells_ne h.1 hl0)
        exact .inr ⟨g, o, h1, rangeAt_below hb h2 hg, hg⟩
    have := rsays_any w.heap.size W hW x HA.out.2.2.1 lA pA L P lcap pcap HL.out.1 HP.out.1 HL.out.2.2.1 HL.out.2.2.2.1 HP.out.2.2.1 HP.out.2.2.2.1 0 0 64 0 sz 0 w' hG (hat _ _ _ HL.out) (hat _ _ _ HP.out) (by omega) HA.out.1 HA.out.2.1 (by rw [pow2_64]; have := HA.out.2.1; omega) HA.out.2.2.2
    obtain ⟨fb, vi, hfb, h2, h3, h4, h5⟩ := said_open (findF nodeH 64 x (x + L.length) (leafAt x L) 0 sz (P.drop 0) 0 0) (findF_len32 64 x L HL.out.1 0 sz 0 0 _ (h32_drop HP.out.1 0) HA.out.1 (by have := HA.out.2.2.2; rw [List.drop_zero]; omega) (by rw [pow2_64]; have := HA.out.2.1; omega))
    refine ⟨fb, vi, h3, h4, h5, this.mono ?_⟩
    rintro ev w2 ⟨q1, _, q3⟩
    refine ⟨?_, q3⟩
    rw [q1]
    unfold saidV
    rw [List.drop_zero] at hfb h2 ⊢
    rw [h2, show hv (sayF nodeH 64 x (x + L.length) (leafAt x L) 0 sz P).1 = .agg vr from evr]
    rw [hfb])
  obtain ⟨n, hn'⟩ : ∃ n, L.length = n := ⟨_, rfl⟩
  obtain ⟨m, hm'⟩ : ∃ m, P.length = m := ⟨_, rfl⟩
  rw [evr]
  rw [hn'] at hn hk0 HSAY ⊢
  rw [hm'] at hm hk0 HSAY ⊢
  obtain ⟨vz, evz, Hvz, Zvz, Ivz, Ovz⟩ := row_of zeroH zeroH_length
  have HZV : Hid (vz = #[.int .u8 0, .int .u8 0, .int .u8 0, .int .u8 0, .int .u8 0, .int .u8 0, .int .u8 0, .int .u8 0, .int .u8 0, .int .u8 0, .int .u8 0, .int .u8 0, .int .u8 0, .int .u8 0, .int .u8 0, .int .u8 0, .int .u8 0, .int .u8 0, .int .u8 0, .int .u8 0, .int .u8 0, .int .u8 0, .int .u8 0, .int .u8 0, .int .u8 0, .int .u8 0, .int .u8 0, .int .u8 0, .int .u8 0, .int .u8 0, .int .u8 0, .int .u8 0]) := Lib.hid (by rw [zeroH_v] at evz; cases evz; rfl)
  obtain ⟨vf, evf, HVF, Zvf, Ivf, Ovf⟩ := fault_of (batchK x sz n m)
  have HFV : Hid (∀ w', Calls Tryd.prog 55 #[.int .u64 x, .int .u64 sz, .slice lA n lcap, .slice pA m pcap] w' fun ev w2 => ev = .returned (.agg vf) ∧ Below w'.heap.size w' w2) := Lib.hid (fun w' => by
    have := refwrong_any x sz lA pA n m lcap pcap w' hx0 hx1 hs0 hs1 hn hm
    rw [evf] at this; exact this)
  obtain ⟨wv, hwv⟩ : ∃ x, (w.alloc (.cells (List.replicate 32 (Value.int .u8 0)).toArray 29)).alloc (.cells #[.int .i64 0, .int .i64 0] 31) = x := ⟨_, rfl⟩
  have HBv : Hid (Below w.heap.size w wv) := Lib.hid (by rw [← hwv]; exact ((Below.refl _ _).alloc (Nat.le_refl _) _).alloc (by simp) _)
  have HSV : Hid (wv.heap.size = w.heap.size + 1 + 1) := Lib.hid (by rw [← hwv]; simp)
  have R8 : Hid (wv.heap[w.heap.size]? = some (.cells (List.replicate 32 (Value.int .u8 0)).toArray 29 (0, 0))) := Lib.hid (by rw [← hwv, ((Below.refl _ _).alloc (Nat.le_refl _) _).block _ (by simp)]; exact heap_at _ _ _ rfl)
  have R9 : Hid (wv.heap[(w.heap.size + 1)]? = some (.cells #[.int .i64 0, .int .i64 0] 31 (0, 0))) := Lib.hid (by rw [← hwv]; exact heap_at _ _ _ (by simp))
  have HWV := Lib.hid hwv
  simp only [List.replicate, List.toArray] at HWV
  have EVZ := Lib.hid evz
  have EVF := Lib.hid evf
  rw [hk0] at HVF
  rw [show faultV 0 = .agg vf by rw [← hk0]; exact evf]
  have hkb : (((0 : Nat) : Int) != 0) = false := by simp
  have HXB := Lib.hid (And.intro hx0 (And.intro hx1 (And.intro hs0 hs1)))
  clear hwv evz evf evr hx1 hs0 hs1 hn hm hk0 hl hp hbk hL0 hrg hbl lr hn' hm' hx0
  go_enter Tryd.func14, Tryd.ntmps14
  go_upto_region 1 with fail
  rw [HWV.out]
  go_wp2_with fail
  refine (HFV.out wv).mono ?_
  rintro ev w1 ⟨rfl, b1⟩
  have B1 := Lib.hid b1
  have HS1 : Hid (w.heap.size + 2 ≤ w1.heap.size) := Lib.hid (by have := b1.size; have := HSV.out; omega)
  clear b1
  go_upto_region 2 with (refine wpList_store_row_any rfl 31 _ _ rfl w1.heap.size vf rfl rfl 31 _ (heap_at _ _ _ rfl) Ivf.out (by rw [Zvf.out]; rfl) Ovf.out ?_; intro w2 hb2 hg2 hs2; have B2 := Lib.hid hb2; have RF0 := Lib.hid hg2; have HS2 : Hid (w2.heap.size = w1.heap.size + 1) := Lib.hid (hs2.trans (by simp)); clear hb2 hg2 hs2)
  have B12 : Hid (Below w1.heap.size w1 w2) := Lib.hid (((Below.refl _ _).alloc (Nat.le_refl _) _).trans (B2.out.to_below (by simp) (fun k hk q => by omega)))
  have HBY0 : Hid (Below w.heap.size w w2) := Lib.hid ((HBv.out.trans (B1.out.mono (by have := HSV.out; omega))).trans (B12.out.mono (by have := HS1.out; omega)))
  have R82 : Hid (w2.heap[w.heap.size]? = some (.cells (List.replicate 32 (Value.int .u8 0)).toArray 29 (0, 0))) := Lib.hid ((B12.out.block _ (by have := HS1.out; omega)).trans ((B1.out.block _ (by have := HSV.out; omega)).trans R8.out))
  have R92 : Hid (w2.heap[(w.heap.size + 1)]? = some (.cells #[.int .i64 0, .int .i64 0] 31 (0, 0))) := Lib.hid ((B12.out.block _ (by have := HS1.out; omega)).trans ((B1.out.block _ (by have := HSV.out; omega)).trans R9.out))
  have c10 : w2.cell? ⟨w1.heap.size, 0, none⟩ = some (.int .i64 (0 : Nat)) := by rw [cell_of_row w2 w1.heap.size 0 _ 31 (0, 0) RF0.out, HVF.out]; rfl
  have hl10 : w1.heap.size < w2.heap.size := by have := HS2.out; omega
  go_upto_region 5 with fail
  obtain ⟨wb, hwb⟩ : ∃ y, w2.alloc (.cells #[.int .u64 x, .slice lA n lcap, .slice pA m pcap, .int .i64 0] 95) = y := ⟨_, rfl⟩
  have BB : Hid (Below w2.heap.size w2 wb) := Lib.hid (by rw [← hwb]; exact (Below.refl _ _).alloc (Nat.le_refl _) _)
  have GB : Hid (GAt wb w2.heap.size x (.slice lA n lcap) (.slice pA m pcap) 0) := Lib.hid (by rw [← hwb]; exact heap_at _ _ _ rfl)
  have HSB : Hid (wb.heap.size = w2.heap.size + 1) := Lib.hid (by rw [← hwb]; simp)
  obtain ⟨fb, vi, Zvi, Ivi, Ovi, hsay⟩ := HSAY.out w2.heap.size wb (HBY0.out.trans (BB.out.mono (by have := HBY0.out.size; omega))) (by have := HBY0.out.size; omega) GB.out
  have CS := Lib.hid hsay
  rw [hwb]
  clear hwb c10 hl10 hsay
  go_wp2_with fail
  refine CS.out.mono ?_
  rintro ev w4 ⟨rfl, b4⟩
  have B4 := Lib.hid b4
  have HS4 : Hid (w1.heap.size + 2 ≤ w4.heap.size) := Lib.hid (by have := b4.size; have := HSB.out; have := HS2.out; omega)
  clear b4
  go_upto_region 6 with (first
    | (refine wpList_store_row_any rfl 29 _ _ rfl w4.heap.size vr rfl rfl 29 _ ((((Below.refl _ (w4.alloc _)).alloc (Nat.le_refl _) _).block _ (by simp)).trans (heap_at _ _ _ rfl)) Ivr.out (by rw [Zvr.out]; rfl) Ovr.out ?_; intro w5 hbA hgA hsA; have BA := Lib.hid hbA; have GA := Lib.hid hgA; have SA : Hid (w5.heap.size = w4.heap.size + 1 + 1) := Lib.hid (hsA.trans (by simp)); clear hbA hgA hsA)
    | (refine wpList_store_row_any rfl 29 _ _ rfl (w4.heap.size + 1) vi rfl rfl 29 _ ((BA.out.same _ (by simp) (by omega)).trans (heap_at _ _ _ (by simp))) Ivi.out (by rw [Zvi.out]; rfl) Ovi.out ?_; intro wy hbB hgB hsB; have BC := Lib.hid hbB; have SB : Hid (wy.heap.size = w4.heap.size + 1 + 1) := Lib.hid (hsB.trans SA.out); clear hbB hgB hsB))
  have B4Y : Hid (Below w4.heap.size w4 wy) := Lib.hid ((((Below.refl _ _).alloc (Nat.le_refl _) _).alloc (by simp) _).trans (((BA.out.mono (T := fun k => k = w4.heap.size ∨ k = w4.heap.size + 1) (fun _ _ q => .inl q)).step BC.out (fun _ _ q => .inr q)).to_below (by simp; omega) (fun k hk q => by omega)))
  have RR : Hid (wy.heap[w4.heap.size]? = some (.cells vr 29 (0, 0))) := Lib.hid ((BC.out.same _ (by have := SA.out; omega) (by omega)).trans GA.out)
  have KY : Hid (∀ j, j < w2.heap.size → wy.heap[j]? = w2.heap[j]?) := Lib.hid (fun j hj => (B4Y.out.block j (by have := B4.out.size; have := HSB.out; omega)).trans ((B4.out.same j (by have := HSB.out; omega) (by omega)).trans (BB.out.block j hj)))
  have RF : Hid (wy.heap[w1.heap.size]? = some (.cells vf 31 (0, 0))) := Lib.hid ((KY.out _ (by have := HS2.out; omega)).trans RF0.out)
  have R8y : Hid (wy.heap[w.heap.size]? = some (.cells (List.replicate 32 (Value.int .u8 0)).toArray 29 (0, 0))) := Lib.hid ((KY.out _ (by have := HS2.out; have := HS1.out; omega)).trans R82.out)
  have R9y : Hid (wy.heap[(w.heap.size + 1)]? = some (.cells #[.int .i64 0, .int .i64 0] 31 (0, 0))) := Lib.hid ((KY.out _ (by have := HS2.out; have := HS1.out; omega)).trans R92.out)
  have HBY : Hid (Below w.heap.size w wy) := Lib.hid (((HBY0.out.trans (BB.out.mono (by have := HBY0.out.size; omega))).trans (B4.out.to_below (by have := HSB.out; have := HS2.out; have := HS1.out; omega) (fun k hk q => by have := HS2.out; have := HS1.out; omega))).trans (B4Y.out.mono (by have := HS4.out; have := HS1.out; omega)))
  have h1w : w.heap.size + 2 ≤ w1.heap.size := HS1.out
  have h4w : w.heap.size + 4 ≤ w4.heap.size := by have := HS4.out; omega
  refine wp_region_held_drew (S := But (fun k => k = w.heap.size ∨ k = w.heap.size + 1) wy) (by kernel_rfl) (But.refl _ _).drew (fun hHeld => ?_)
  refine wpAnyH_take (i := 0) (v := _) rfl (by kernel_rfl) (by kernel_rfl) (by kernel_rfl) (fun _ _ _ h => h) (yieldsIf_load_row (by rfl) 29 _ (by rfl) w4.heap.size (by rfl) 29 vr (0, 0) _ (fun w h => (But.same h _ (Array.getElem?_eq_some_iff.1 RR.out).1 (by omega)).trans RR.out) Tryd.underlying29 rfl Ivr.out) (by assumption) ?_
  try simp only [Act.put, List.getElem_toArray, List.getElem_cons_zero, List.setIfInBounds_toArray, List.set_cons_zero, List.set_cons_succ]
  refine wpAnyH_take (i := 1) (v := _) rfl (by kernel_rfl) (by kernel_rfl) (by kernel_rfl) (fun _ _ _ h => h) (yieldsIf_load_row (by rfl) 31 _ (by rfl) w1.heap.size (by rfl) 31 vf (0, 0) _ (fun w h => (But.same h _ (Array.getElem?_eq_some_iff.1 RF.out).1 (by omega)).trans RF.out) Tryd.underlying31 rfl Ivf.out) (by assumption) ?_
  try simp only [Act.put, List.getElem_toArray, List.getElem_cons_zero, List.getElem_cons_succ, List.setIfInBounds_toArray, List.set_cons_zero, List.set_cons_succ]
  refine wpAnyH_ready (rs := [2]) (by kernel_rfl) (by simp) ?_
  refine AllReadyH.cons (i := 2) rfl (fun K2 hK2 => ?_) AllReadyH.nil
  rw [if_pos (by rfl)]
  refine wp_store_row 29 _ _ rfl w.heap.size vr rfl rfl 29 _ (R8y.out) Ivr.out (by rw [Zvr.out]; rfl) Ovr.out ?_
  refine hK2.out _ _ (show But (fun k => k = w.heap.size ∨ k = w.heap.size + 1) wy _ from ((But.refl (fun k => k = w.heap.size ∨ k = w.heap.size + 1) wy).drew.setRow w.heap.size vr (fun _ => by omega))) (fun hHeld2 => ?_)
  clear hK2 K2
  try simp only [Act.put, List.getElem_toArray, List.getElem_cons_zero, List.getElem_cons_succ]
  refine wpAnyH_ready (rs := [3]) (by kernel_rfl) (by simp) ?_
  refine AllReadyH.cons (i := 3) rfl (fun K2 hK2 => ?_) AllReadyH.nil
  rw [if_pos (by rfl)]
  refine wp_store_row 31 _ _ rfl (w.heap.size + 1) vf rfl rfl 31 _ ((setRow_other _ _ _ _ (by omega)).trans (R9y.out)) Ivf.out (by rw [Zvf.out]; rfl) Ovf.out ?_
  refine hK2.out _ _ (show But (fun k => k = w.heap.size ∨ k = w.heap.size + 1) wy _ from (((But.refl (fun k => k = w.heap.size ∨ k = w.heap.size + 1) wy).drew.setRow w.heap.size vr (fun _ => by omega)).setRow (w.heap.size + 1) vf (fun _ => by omega))) (fun hHeld2 => ?_)
  clear hK2 K2
  try simp only [Act.put, List.getElem_toArray, List.getElem_cons_zero, List.getElem_cons_succ]
  refine wpAnyH_done (by kernel_rfl) ?_ _
  clear hHeld
  go_wp2_with fail
  refine bodyPost_ret (v := .tuple #[.agg vr, .agg vf]) (results_row_row rfl _ _ w.heap.size (w.heap.size + 1) 29 31 vr vf (0, 0) (0, 0) _ _ rfl ((setRow_other _ _ _ _ (by omega)).trans (setRow_heap _ _ _ _ _ _ R8y.out)) rfl (setRow_heap _ _ _ _ _ _ ((setRow_other _ _ _ _ (by omega)).trans R9y.out)) Tryd.underlying29 rfl Ivr.out Tryd.underlying31 rfl Ivf.out) rfl ⟨rfl, LR.out, ?_⟩
  exact below_setRow (below_setRow HBY.out.drew _ _ (by omega)) _ _ (by omega)
end Go.Proofs.YtmfngcnmacjbfaaDoor

/- cartularyref19.Verify: the fault. No condition. -/
namespace Go.Proofs.YtmfngcnmacjbfaaDoor
open Go.ChangeShapes Go.WideShapes Go.ChangeAt Go.RowKit
set_option linter.unusedVariables false
set_option maxRecDepth 100000 in
set_option maxHeartbeats 4000000 in
theorem refver_bad (x sz : Int) (lA pA : Option Addr) (n m lcap pcap : Nat) (t r : List UInt8) (k : Nat) (w : World) (ht : t.length = 32) (hr : r.length = 32) (hk : k ≠ 0)
    (H : ∀ w', Below w.heap.size w w' → Calls Tryd.prog 14 #[.int .u64 x, .int .u64 sz, .slice lA n lcap, .slice pA m pcap] w' fun ev w2 => ev = .returned (.tuple #[hv r, faultV k]) ∧ Below w'.heap.size w' w2) :
    Calls Tryd.prog 18 #[.int .u64 x, .int .u64 sz, .slice lA n lcap, .slice pA m pcap, hv t] w fun ev w' => ev = .returned (faultV k) ∧ Below w.heap.size w w' := by
  obtain ⟨vt, evt, Hvt, Zvt, Ivt, Ovt⟩ := row_of t ht
  obtain ⟨vr, evr, Hvr, Zvr, Ivr, Ovr⟩ := row_of r hr
  obtain ⟨vf, evf, HVF, Zvf, Ivf, Ovf⟩ := fault_of k
  rw [evr, evf] at H
  have CR := Lib.hid H
  obtain ⟨wv, hwv⟩ : ∃ x, (w.alloc (.cells vt 29)).alloc (.cells #[.int .i64 0, .int .i64 0] 31) = x := ⟨_, rfl⟩
  have HBv : Hid (Below w.heap.size w wv) := Lib.hid (by rw [← hwv]; exact ((Below.refl _ _).alloc (Nat.le_refl _) _).alloc (by simp) _)
  have HSV : Hid (wv.heap.size = w.heap.size + 1 + 1) := Lib.hid (by rw [← hwv]; simp)
  have R8 : Hid (wv.heap[w.heap.size]? = some (.cells vt 29 (0, 0))) := Lib.hid (by rw [← hwv, ((Below.refl _ _).alloc (Nat.le_refl _) _).block _ (by simp)]; exact heap_at _ _ _ rfl)
  have R9 : Hid (wv.heap[(w.heap.size + 1)]? = some (.cells #[.int .i64 0, .int .i64 0] 31 (0, 0))) := Lib.hid (by rw [← hwv]; exact heap_at _ _ _ (by simp))
  have HWV := Lib.hid hwv
  have hkb : ((k : Int) == 0) = false := by simp; exact hk
  rw [evf]
  clear hk
  rw [evt]
  clear hwv evt evr evf H ht hr
  go_enter Tryd.func18, Tryd.ntmps18
  go_upto_region 1 with fail
  rw [HWV.out]
  go_wp2_with fail
  refine (CR.out wv HBv.out).mono ?_
  rintro ev w1 ⟨rfl, b1⟩
  have B1 := Lib.hid b1
  have HS1 : Hid (w.heap.size + 2 ≤ w1.heap.size) := Lib.hid (by have := b1.size; have := HSV.out; omega)
  clear b1
  go_upto_region 2 with (first
    | (refine wpList_store_row_any rfl 29 _ _ rfl w1.heap.size vr rfl rfl 29 _ ((((Below.refl _ (w1.alloc _)).alloc (Nat.le_refl _) _).block _ (by simp)).trans (heap_at _ _ _ rfl)) Ivr.out (by rw [Zvr.out]; rfl) Ovr.out ?_; intro w2 hbA hgA hsA; have BA := Lib.hid hbA; have GA := Lib.hid hgA; have SA : Hid (w2.heap.size = w1.heap.size + 1 + 1) := Lib.hid (hsA.trans (by simp)); clear hbA hgA hsA)
    | (refine wpList_store_row_any rfl 31 _ _ rfl (w1.heap.size + 1) vf rfl rfl 31 _ ((BA.out.same _ (by simp) (by omega)).trans (heap_at _ _ _ (by simp))) Ivf.out (by rw [Zvf.out]; rfl) Ovf.out ?_; intro wy hbB hgB hsB; have BC := Lib.hid hbB; have RF := Lib.hid hgB; have SB : Hid (wy.heap.size = w1.heap.size + 1 + 1) := Lib.hid (hsB.trans SA.out); clear hbB hgB hsB))
  have B1Y : Hid (Below w1.heap.size w1 wy) := Lib.hid ((((Below.refl _ _).alloc (Nat.le_refl _) _).alloc (by simp) _).trans (((BA.out.mono (T := fun k => k = w1.heap.size ∨ k = w1.heap.size + 1) (fun _ _ q => .inl q)).step BC.out (fun _ _ q => .inr q)).to_below (by simp; omega) (fun k hk q => by omega)))
  have RR : Hid (wy.heap[w1.heap.size]? = some (.cells vr 29 (0, 0))) := Lib.hid ((BC.out.same _ (by have := SA.out; omega) (by omega)).trans GA.out)
  have R8y : Hid (wy.heap[w.heap.size]? = some (.cells vt 29 (0, 0))) := Lib.hid ((B1Y.out.block _ (by have := HS1.out; omega)).trans ((B1.out.block _ (by have := HSV.out; omega)).trans R8.out))
  have R9y : Hid (wy.heap[(w.heap.size + 1)]? = some (.cells #[.int .i64 0, .int .i64 0] 31 (0, 0))) := Lib.hid ((B1Y.out.block _ (by have := HS1.out; omega)).trans ((B1.out.block _ (by have := HSV.out; omega)).trans R9.out))
  have HBY : Hid (Below w.heap.size w wy) := Lib.hid ((HBv.out.trans (B1.out.mono (by have := HSV.out; omega))).trans (B1Y.out.mono (by have := HS1.out; omega)))
  have c12 : wy.cell? ⟨w1.heap.size + 1, 0, none⟩ = some (.int .i64 k) := by rw [cell_of_row wy (w1.heap.size + 1) 0 _ 31 (0, 0) RF.out, HVF.out]; rfl
  have hl12 : w1.heap.size + 1 < wy.heap.size := by have := SB.out; omega
  go_wp2_with (first
    | (refine wpList_load_row_g rfl 29 _ rfl w1.heap.size rfl 29 vr (0, 0) _ RR.out Tryd.underlying29 rfl Ivr.out ?_)
    | (refine wpList_load_row_g rfl 29 _ rfl w.heap.size rfl 29 vt (0, 0) _ R8y.out Tryd.underlying29 rfl Ivt.out ?_)
    | (refine wpList_load_row rfl 31 _ rfl (w1.heap.size + 1) rfl 31 vf (0, 0) _ RF.out Tryd.underlying31 rfl Ivf.out ?_)
    | (refine wpList_store_row rfl 31 _ _ rfl (w.heap.size + 1) vf rfl rfl 31 _ R9y.out Ivf.out (by rw [Zvf.out]; rfl) Ovf.out ?_))
  refine bodyPost_ret (v := .agg vf) (results_cell_row rfl _ _ (w.heap.size + 1) 31 vf (0, 0) _ rfl (setRow_heap _ _ _ _ _ _ R9y.out) Tryd.underlying31 rfl Ivf.out) rfl ⟨rfl, below_setRow HBY.out _ _ (by omega)⟩

set_option maxRecDepth 100000 in
set_option maxHeartbeats 4000000 in
theorem refver_eq (x sz : Int) (lA pA : Option Addr) (n m lcap pcap : Nat) (t r : List UInt8) (k : Nat) (w : World) (ht : t.length = 32) (hr : r.length = 32) (hq : r = t)
    (H : ∀ w', Below w.heap.size w w' → Calls Tryd.prog 14 #[.int .u64 x, .int .u64 sz, .slice lA n lcap, .slice pA m pcap] w' fun ev w2 => ev = .returned (.tuple #[hv r, faultV (0 : Nat)]) ∧ Below w'.heap.size w' w2) :
    Calls Tryd.prog 18 #[.int .u64 x, .int .u64 sz, .slice lA n lcap, .slice pA m pcap, hv t] w fun ev w' => ev = .returned (faultV 0) ∧ Below w.heap.size w w' := by
  obtain ⟨vt, evt, Hvt, Zvt, Ivt, Ovt⟩ := row_of t ht
  obtain ⟨vr, evr, Hvr, Zvr, Ivr, Ovr⟩ := row_of r hr
  obtain ⟨vf, evf, HVF, Zvf, Ivf, Ovf⟩ := fault_of (0 : Nat)
  rw [evr, evf] at H
  have CR := Lib.hid H
  obtain ⟨wv, hwv⟩ : ∃ x, (w.alloc (.cells vt 29)).alloc (.cells #[.int .i64 0, .int .i64 0] 31) = x := ⟨_, rfl⟩
  have HBv : Hid (Below w.heap.size w wv) := Lib.hid (by rw [← hwv]; exact ((Below.refl _ _).alloc (Nat.le_refl _) _).alloc (by simp) _)
  have HSV : Hid (wv.heap.size = w.heap.size + 1 + 1) := Lib.hid (by rw [← hwv]; simp)
  have R8 : Hid (wv.heap[w.heap.size]? = some (.cells vt 29 (0, 0))) := Lib.hid (by rw [← hwv, ((Below.refl _ _).alloc (Nat.le_refl _) _).block _ (by simp)]; exact heap_at _ _ _ rfl)
  have R9 : Hid (wv.heap[(w.heap.size + 1)]? = some (.cells #[.int .i64 0, .int .i64 0] 31 (0, 0))) := Lib.hid (by rw [← hwv]; exact heap_at _ _ _ (by simp))
  have HWV := Lib.hid hwv
  have hqe : ∀ w, (Op.equalIn 10000 29 (.agg vr) (.agg vt)).run Tryd.prog w = .ok true w := fun w => by rw [eq_hash r t hr ht vr vt evr evt w]; simp [hq]
  rw [evf]
  clear hq
  rw [evt]
  clear hwv evt evr evf H ht hr
  go_enter Tryd.func18, Tryd.ntmps18
  go_upto_region 1 with fail
  rw [HWV.out]
  go_wp2_with fail
  refine (CR.out wv HBv.out).mono ?_
  rintro ev w1 ⟨rfl, b1⟩
  have B1 := Lib.hid b1
  have HS1 : Hid (w.heap.size + 2 ≤ w1.heap.size) := Lib.hid (by have := b1.size; have := HSV.out; omega)
  clear b1
  go_upto_region 2 with (first
    | (refine wpList_store_row_any rfl 29 _ _ rfl w1.heap.size vr rfl rfl 29 _ ((((Below.refl _ (w1.alloc _)).alloc (Nat.le_refl _) _).block _ (by simp)).trans (heap_at _ _ _ rfl)) Ivr.out (by rw [Zvr.out]; rfl) Ovr.out ?_; intro w2 hbA hgA hsA; have BA := Lib.hid hbA; have GA := Lib.hid hgA; have SA : Hid (w2.heap.size = w1.heap.size + 1 + 1) := Lib.hid (hsA.trans (by simp)); clear hbA hgA hsA)
    | (refine wpList_store_row_any rfl 31 _ _ rfl (w1.heap.size + 1) vf rfl rfl 31 _ ((BA.out.same _ (by simp) (by omega)).trans (heap_at _ _ _ (by simp))) Ivf.out (by rw [Zvf.out]; rfl) Ovf.out ?_; intro wy hbB hgB hsB; have BC := Lib.hid hbB; have RF := Lib.hid hgB; have SB : Hid (wy.heap.size = w1.heap.size + 1 + 1) := Lib.hid (hsB.trans SA.out); clear hbB hgB hsB))
  have B1Y : Hid (Below w1.heap.size w1 wy) := Lib.hid ((((Below.refl _ _).alloc (Nat.le_refl _) _).alloc (by simp) _).trans (((BA.out.mono (T := fun k => k = w1.heap.size ∨ k = w1.heap.size + 1) (fun _ _ q => .inl q)).step BC.out (fun _ _ q => .inr q)).to_below (by simp; omega) (fun k hk q => by omega)))
  have RR : Hid (wy.heap[w1.heap.size]? = some (.cells vr 29 (0, 0))) := Lib.hid ((BC.out.same _ (by have := SA.out; omega) (by omega)).trans GA.out)
  have R8y : Hid (wy.heap[w.heap.size]? = some (.cells vt 29 (0, 0))) := Lib.hid ((B1Y.out.block _ (by have := HS1.out; omega)).trans ((B1.out.block _ (by have := HSV.out; omega)).trans R8.out))
  have R9y : Hid (wy.heap[(w.heap.size + 1)]? = some (.cells #[.int .i64 0, .int .i64 0] 31 (0, 0))) := Lib.hid ((B1Y.out.block _ (by have := HS1.out; omega)).trans ((B1.out.block _ (by have := HSV.out; omega)).trans R9.out))
  have HBY : Hid (Below w.heap.size w wy) := Lib.hid ((HBv.out.trans (B1.out.mono (by have := HSV.out; omega))).trans (B1Y.out.mono (by have := HS1.out; omega)))
  have c12 : wy.cell? ⟨w1.heap.size + 1, 0, none⟩ = some (.int .i64 (0 : Nat)) := by rw [cell_of_row wy (w1.heap.size + 1) 0 _ 31 (0, 0) RF.out, HVF.out]; rfl
  have hl12 : w1.heap.size + 1 < wy.heap.size := by have := SB.out; omega
  go_wp2_with (first
    | (refine wpList_load_row_g rfl 29 _ rfl w1.heap.size rfl 29 vr (0, 0) _ RR.out Tryd.underlying29 rfl Ivr.out ?_)
    | (refine wpList_load_row_g rfl 29 _ rfl w.heap.size rfl 29 vt (0, 0) _ R8y.out Tryd.underlying29 rfl Ivt.out ?_)
    | (refine wpList_load_row rfl 31 _ rfl (w1.heap.size + 1) rfl 31 vf (0, 0) _ RF.out Tryd.underlying31 rfl Ivf.out ?_)
    | (refine wpList_store_row rfl 31 _ _ rfl (w.heap.size + 1) vf rfl rfl 31 _ R9y.out Ivf.out (by rw [Zvf.out]; rfl) Ovf.out ?_))
  refine bodyPost_ret (v := .agg vf) (results_cell_row rfl _ _ (w.heap.size + 1) 31 vf (0, 0) _ rfl (setRow_heap _ _ _ _ _ _ R9y.out) Tryd.underlying31 rfl Ivf.out) rfl ⟨rfl, below_setRow HBY.out _ _ (by omega)⟩

set_option maxRecDepth 100000 in
set_option maxHeartbeats 4000000 in
theorem refver_ne (x sz : Int) (lA pA : Option Addr) (n m lcap pcap : Nat) (t r : List UInt8) (k : Nat) (w : World) (ht : t.length = 32) (hr : r.length = 32) (hq : r ≠ t)
    (H : ∀ w', Below w.heap.size w w' → Calls Tryd.prog 14 #[.int .u64 x, .int .u64 sz, .slice lA n lcap, .slice pA m pcap] w' fun ev w2 => ev = .returned (.tuple #[hv r, faultV (0 : Nat)]) ∧ Below w'.heap.size w' w2) :
    Calls Tryd.prog 18 #[.int .u64 x, .int .u64 sz, .slice lA n lcap, .slice pA m pcap, hv t] w fun ev w' => ev = .returned (faultV 10) ∧ Below w.heap.size w w' := by
  obtain ⟨vt, evt, Hvt, Zvt, Ivt, Ovt⟩ := row_of t ht
  obtain ⟨vr, evr, Hvr, Zvr, Ivr, Ovr⟩ := row_of r hr
  obtain ⟨vf, evf, HVF, Zvf, Ivf, Ovf⟩ := fault_of (0 : Nat)
  rw [evr, evf] at H
  have CR := Lib.hid H
  obtain ⟨wv, hwv⟩ : ∃ x, (w.alloc (.cells vt 29)).alloc (.cells #[.int .i64 0, .int .i64 0] 31) = x := ⟨_, rfl⟩
  have HBv : Hid (Below w.heap.size w wv) := Lib.hid (by rw [← hwv]; exact ((Below.refl _ _).alloc (Nat.le_refl _) _).alloc (by simp) _)
  have HSV : Hid (wv.heap.size = w.heap.size + 1 + 1) := Lib.hid (by rw [← hwv]; simp)
  have R8 : Hid (wv.heap[w.heap.size]? = some (.cells vt 29 (0, 0))) := Lib.hid (by rw [← hwv, ((Below.refl _ _).alloc (Nat.le_refl _) _).block _ (by simp)]; exact heap_at _ _ _ rfl)
  have R9 : Hid (wv.heap[(w.heap.size + 1)]? = some (.cells #[.int .i64 0, .int .i64 0] 31 (0, 0))) := Lib.hid (by rw [← hwv]; exact heap_at _ _ _ (by simp))
  have HWV := Lib.hid hwv
  have hqe : ∀ w, (Op.equalIn 10000 29 (.agg vr) (.agg vt)).run Tryd.prog w = .ok false w := fun w => by rw [eq_hash r t hr ht vr vt evr evt w]; simp [hq]
  obtain ⟨vq, evq, HVQ, Zvq, Ivq, Ovq⟩ := fault_of 10
  have PLAIN : Hid (∀ w, Calls Tryd.prog 60 #[.int .i64 10] w fun ev w' => ev = .returned (.agg vq) ∧ Below w.heap.size w w') := Lib.hid (fun w => by rw [HVQ.out]; exact plain10 w)
  rw [evq]
  clear hq evq
  rw [evt]
  clear hwv evt evr evf H ht hr
  go_enter Tryd.func18, Tryd.ntmps18
  go_upto_region 1 with fail
  rw [HWV.out]
  go_wp2_with fail
  refine (CR.out wv HBv.out).mono ?_
  rintro ev w1 ⟨rfl, b1⟩
  have B1 := Lib.hid b1
  have HS1 : Hid (w.heap.size + 2 ≤ w1.heap.size) := Lib.hid (by have := b1.size; have := HSV.out; omega)
  clear b1
  go_upto_region 2 with (first
    | (refine wpList_store_row_any rfl 29 _ _ rfl w1.heap.size vr rfl rfl 29 _ ((((Below.refl _ (w1.alloc _)).alloc (Nat.le_refl _) _).block _ (by simp)).trans (heap_at _ _ _ rfl)) Ivr.out (by rw [Zvr.out]; rfl) Ovr.out ?_; intro w2 hbA hgA hsA; have BA := Lib.hid hbA; have GA := Lib.hid hgA; have SA : Hid (w2.heap.size = w1.heap.size + 1 + 1) := Lib.hid (hsA.trans (by simp)); clear hbA hgA hsA)
    | (refine wpList_store_row_any rfl 31 _ _ rfl (w1.heap.size + 1) vf rfl rfl 31 _ ((BA.out.same _ (by simp) (by omega)).trans (heap_at _ _ _ (by simp))) Ivf.out (by rw [Zvf.out]; rfl) Ovf.out ?_; intro wy hbB hgB hsB; have BC := Lib.hid hbB; have RF := Lib.hid hgB; have SB : Hid (wy.heap.size = w1.heap.size + 1 + 1) := Lib.hid (hsB.trans SA.out); clear hbB hgB hsB))
  have B1Y : Hid (Below w1.heap.size w1 wy) := Lib.hid ((((Below.refl _ _).alloc (Nat.le_refl _) _).alloc (by simp) _).trans (((BA.out.mono (T := fun k => k = w1.heap.size ∨ k = w1.heap.size + 1) (fun _ _ q => .inl q)).step BC.out (fun _ _ q => .inr q)).to_below (by simp; omega) (fun k hk q => by omega)))
  have RR : Hid (wy.heap[w1.heap.size]? = some (.cells vr 29 (0, 0))) := Lib.hid ((BC.out.same _ (by have := SA.out; omega) (by omega)).trans GA.out)
  have R8y : Hid (wy.heap[w.heap.size]? = some (.cells vt 29 (0, 0))) := Lib.hid ((B1Y.out.block _ (by have := HS1.out; omega)).trans ((B1.out.block _ (by have := HSV.out; omega)).trans R8.out))
  have R9y : Hid (wy.heap[(w.heap.size + 1)]? = some (.cells #[.int .i64 0, .int .i64 0] 31 (0, 0))) := Lib.hid ((B1Y.out.block _ (by have := HS1.out; omega)).trans ((B1.out.block _ (by have := HSV.out; omega)).trans R9.out))
  have HBY : Hid (Below w.heap.size w wy) := Lib.hid ((HBv.out.trans (B1.out.mono (by have := HSV.out; omega))).trans (B1Y.out.mono (by have := HS1.out; omega)))
  have c12 : wy.cell? ⟨w1.heap.size + 1, 0, none⟩ = some (.int .i64 (0 : Nat)) := by rw [cell_of_row wy (w1.heap.size + 1) 0 _ 31 (0, 0) RF.out, HVF.out]; rfl
  have hl12 : w1.heap.size + 1 < wy.heap.size := by have := SB.out; omega
  go_wp2_with (first
    | (refine wpList_load_row_g rfl 29 _ rfl w1.heap.size rfl 29 vr (0, 0) _ RR.out Tryd.underlying29 rfl Ivr.out ?_)
    | (refine wpList_load_row_g rfl 29 _ rfl w.heap.size rfl 29 vt (0, 0) _ R8y.out Tryd.underlying29 rfl Ivt.out ?_))
  refine (PLAIN.out _).mono ?_
  rintro ev w3 ⟨rfl, b3⟩
  have R93 : Hid (w3.heap[(w.heap.size + 1)]? = some (.cells #[.int .i64 0, .int .i64 0] 31 (0, 0))) := Lib.hid ((b3.block _ (Array.getElem?_eq_some_iff.1 R9y.out).1).trans R9y.out)
  have HB3 : Hid (Below w.heap.size w w3) := Lib.hid (HBY.out.trans (b3.mono HBY.out.size))
  clear b3
  go_wp2_with (refine wpList_store_row rfl 31 _ _ rfl (w.heap.size + 1) vq rfl rfl 31 _ R93.out Ivq.out (by rw [Zvq.out]; rfl) Ovq.out ?_)
  refine bodyPost_ret (v := .agg vq) (results_cell_row rfl _ _ (w.heap.size + 1) 31 vq (0, 0) _ rfl (setRow_heap _ _ _ _ _ _ R93.out) Tryd.underlying31 rfl Ivq.out) rfl ⟨rfl, below_setRow HB3.out _ _ (by omega)⟩

/-- which fault Verify tells -/
def verK (x sz : Int) (L P : List (List UInt8)) (t : List UInt8) : Nat := if batchK x sz L.length P.length ≠ 0 then batchK x sz L.length P.length else if rootB x sz L P = t then 0 else 10
theorem refverify_any (x sz : Int) (lA pA : Option Addr) (lcap pcap : Nat) (L P : List (List UInt8)) (t : List UInt8) (w : World) (ht : t.length = 32) (hl : HIn w lA L.length lcap L) (hp : HIn w pA P.length pcap P) (hx0 : 0 ≤ x) (hx1 : x < 18446744073709551616) (hs0 : 0 ≤ sz) (hs1 : sz < 18446744073709551616) :
    Calls Tryd.prog 18 #[.int .u64 x, .int .u64 sz, .slice lA L.length lcap, .slice pA P.length pcap, hv t] w fun ev w' => ev = .returned (faultV (verK x sz L P t)) ∧ Below w.heap.size w w' := by
  have hn : L.length ≤ 9223372036854775807 := Nat.le_trans hl.2.2.1 hl.2.2.2.1
  have hm : P.length ≤ 9223372036854775807 := Nat.le_trans hp.2.2.1 hp.2.2.2.1
  unfold verK
  by_cases hk : batchK x sz L.length P.length = 0
  · rw [if_neg (by simp [hk])]
    have H : ∀ w', Below w.heap.size w w' → Calls Tryd.prog 14 #[.int .u64 x, .int .u64 sz, .slice lA L.length lcap, .slice pA P.length pcap] w' fun ev w2 => ev = .returned (.tuple #[hv (rootB x sz L P), faultV 0]) ∧ Below w'.heap.size w' w2 := fun w' hb =>
      (refroot_ok x sz lA pA lcap pcap L P w' (hl.below hb) (hp.below hb) hx0 hx1 hs0 hs1 hk).mono (fun _ _ q => ⟨q.1, q.2.2⟩)
    have lr : (rootB x sz L P).length = 32 := root_len hl.1 hp.1 hs0 hx0 hk
    by_cases hq : rootB x sz L P = t
    · rw [if_pos hq]; exact refver_eq x sz lA pA _ _ lcap pcap t _ 0 w ht lr hq H
    · rw [if_neg hq]; exact refver_ne x sz lA pA _ _ lcap pcap t _ 0 w ht lr hq H
  · rw [if_pos hk]
    exact refver_bad x sz lA pA _ _ lcap pcap t zeroH _ w ht zeroH_length hk (fun w' hb => refroot_bad x sz lA pA _ _ lcap pcap w' hx0 hx1 hs0 hs1 hn hm hk)
end Go.Proofs.YtmfngcnmacjbfaaDoor

