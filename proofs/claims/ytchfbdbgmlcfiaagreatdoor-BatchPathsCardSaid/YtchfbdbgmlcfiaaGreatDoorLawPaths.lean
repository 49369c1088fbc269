import Derived.Test.YtchfbdbgmlcfiaaGreatDoorBeyond
import Derived.Test.YtchfbdbgmlcfiaaGreatDoorHashAid
import Derived.Test.YtchfbdbgmlcfiaaGreatDoorRefSays
import Derived.Test.YtchfbdbgmlcfiaaGreatDoorRefRoot
import Derived.Test.YtchfbdbgmlcfiaaGreatDoorRefTops
import Derived.Test.YtchfbdbgmlcfiaaGreatDoorBatchPath
import Derived.Test.YtchfbdbgmlcfiaaGreatDoorTwinHash
import Derived.BigRegion
import Derived.Deep.DeepCutAuto
import Derived.Test.YtchfbdbgmlcfiaaGreatDoorPairHash
/- cartularylaw19.great. No condition. -/
namespace Go.Proofs.YtchfbdbgmlcfiaaGreatDoor
open Go.ChangeShapes Go.WideShapes Go.ChangeAt Go.RowKit
set_option linter.unusedVariables false
set_option maxRecDepth 100000 in
set_option maxHeartbeats 2000000 in
theorem great_any (A1 A2 : Option Addr) (n1 k1 n2 k2 : Nat) (ix : Int) (w : World) (h1 : n1 ≤ 9000000000000000000) (h2 : n2 ≤ 9000000000000000000) :
    Calls Tryz.prog 5 #[.agg #[.slice A1 n1 k1, .slice A2 n2 k2, .int .u64 ix]] w fun ev w' => ev = .returned (.bool (decide (1048576 < n1 + n2))) ∧ Below w.heap.size w w' := by
  have hbx : (Tryz.prog.info? 25).map (·.size) = some 3 := by kernel_rfl
  have HB : Hid (Below w.heap.size w ((w.alloc (.cells #[.slice A1 n1 k1, .slice A2 n2 k2, .int .u64 ix] 25)).alloc (.cells #[.int .i64 n1, .int .i64 n2] 3))) := Lib.hid (((Below.refl _ _).alloc (Nat.le_refl _) _).alloc (by simp) _)
  have hby := beyond_any [n1, n2] (w.heap.size + 1) 2 2 ((w.alloc (.cells #[.slice A1 n1 k1, .slice A2 n2 k2, .int .u64 ix] 25)).alloc (.cells #[.int .i64 n1, .int .i64 n2] 3)) rfl (by simp; omega) (fun j x hj => by
    have e : (w.alloc (.cells #[.slice A1 n1 k1, .slice A2 n2 k2, .int .u64 ix] 25)).heap.size = w.heap.size + 1 := by simp
    rw [← e]
    refine cell_new _ _ _ _ ?_
    match j, hj with
    | 0, hj => simp at hj; subst hj; rfl
    | 1, hj => simp at hj; subst hj; rfl
    | j + 2, hj => simp at hj) (by omega)
  have hs : [n1, n2].sum = n1 + n2 := by simp
  rw [hs] at hby
  go_enter Tryz.func5, Tryz.ntmps5
  go_wp2_with fail
  refine hby.mono ?_
  rintro ev w1 ⟨rfl, rfl⟩
  clear hby
  go_wp2
  go_ret
  exact ⟨rfl, HB.out⟩
end Go.Proofs.YtchfbdbgmlcfiaaGreatDoor

/- cartularyref19.Path: the path out of a proof. No condition. -/
namespace Go.Proofs.YtchfbdbgmlcfiaaGreatDoor
open Go.ChangeShapes Go.WideShapes Go.ChangeAt Go.RowKit
set_option linter.unusedVariables false
theorem results_tmp_row {P : Program} {fn : Func} {p u : Tmp} {ty : TypeId} (h : fn.results = #[.tmp u, .cell p ty]) (tmps : Array Value) (w : World) (g : Nat) (t : TypeId) (cs : Array Value) (fr : Nat × Nat) (d : TypeDesc)
    (hp : tmps.getD p undef = .pointer (some ⟨g, 0, none⟩)) (hg : w.heap[g]? = some (.cells cs t fr))
    (hu : P.underlying ty = some d) (hd : (match d with | .struct _ | .array _ _ => true | _ => false) = true) (hi : (P.info? ty).map (·.size) = some cs.size) (x : Value) (hx : tmps.getD u undef = x) :
    (results fn tmps).run P w = .ok (.tuple #[x, .agg cs]) w := by
  subst hx
  rw [Array.getD_eq_getD_getElem?] at hp
  simp only [results, h]
  simp [hp, asAddr, run_loadVar_row w g t ty cs fr d hg hu hd hi, Result.andThen]
set_option maxRecDepth 100000 in
set_option maxHeartbeats 4000000 in
theorem refpath_bad (x sz ix : Int) (lA pA : Option Addr) (n m lcap pcap : Nat) (w : World) (hx0 : 0 ≤ x) (hx1 : x < 18446744073709551616) (hs0 : 0 ≤ sz) (hs1 : sz < 18446744073709551616) (hi0 : 0 ≤ ix) (hi1 : ix < 18446744073709551616) (hn : n ≤ 9223372036854775807) (hm : m ≤ 9223372036854775807) (hk0 : batchK x sz n m ≠ 0) :
    Calls Tryz.prog 7 #[.int .u64 x, .int .u64 sz, .slice lA n lcap, .slice pA m pcap, .int .u64 ix] w fun ev w' => ev = .returned (.tuple #[.slice none 0 0, faultV (batchK x sz n m)]) ∧ Below w.heap.size w w' := by
  obtain ⟨vf, evf, HVF, Zvf, Ivf, Ovf⟩ := fault_of (batchK x sz n m)
  have HFV : Hid (∀ w', Calls Tryz.prog 27 #[.int .u64 x, .int .u64 sz, .slice lA n lcap, .slice pA m pcap] w' fun ev w2 => ev = .returned (.agg vf) ∧ Below w'.heap.size w' w2) := Lib.hid (fun w' => by
    have := refwrong_any x sz lA pA n m lcap pcap w' hx0 hx1 hs0 hs1 hn hm
    rw [evf] at this; exact this)
  obtain ⟨wv, hwv⟩ : ∃ x, w.alloc (.cells #[.int .i64 0, .int .i64 0] 29) = x := ⟨_, rfl⟩
  have HBv : Hid (Below w.heap.size w wv) := Lib.hid (by rw [← hwv]; exact (Below.refl _ _).alloc (Nat.le_refl _) _)
  have HSV : Hid (wv.heap.size = w.heap.size + 1) := Lib.hid (by rw [← hwv]; simp)
  have R9 : Hid (wv.heap[w.heap.size]? = some (.cells #[.int .i64 0, .int .i64 0] 29 (0, 0))) := Lib.hid (by rw [← hwv]; exact heap_at _ _ _ rfl)
  have HWV := Lib.hid hwv
  have EVF := Lib.hid evf
  rw [evf]
  have hkb : (((batchK x sz n m : Nat) : Int) != 0) = true := by simp; exact hk0
  obtain ⟨k, hk⟩ : ∃ k, batchK x sz n m = k := ⟨_, rfl⟩
  rw [hk] at hkb HVF
  have HK := Lib.hid hk
  clear hwv evf hx0 hx1 hs0 hs1 hn hm hk0 hk hi0 hi1
  go_enter Tryz.func7, Tryz.ntmps7
  go_upto_region 1 with fail
  rw [HWV.out]
  go_wp2_with fail
  refine (HFV.out wv).mono ?_
  rintro ev w1 ⟨rfl, b1⟩
  have B1 := Lib.hid b1
  have HS1 : Hid (w.heap.size + 1 ≤ w1.heap.size) := Lib.hid (by have := b1.size; have := HSV.out; omega)
  clear b1
  go_upto_region 2 with (refine wpList_store_row_any rfl 29 _ _ rfl w1.heap.size vf rfl rfl 29 _ (heap_at _ _ _ rfl) Ivf.out (by rw [Zvf.out]; rfl) Ovf.out ?_; intro w2 hb2 hg2 hs2; have B2 := Lib.hid hb2; have RF0 := Lib.hid hg2; have HS2 : Hid (w2.heap.size = w1.heap.size + 1) := Lib.hid (hs2.trans (by simp)); clear hb2 hg2 hs2)
  have B12 : Hid (Below w1.heap.size w1 w2) := Lib.hid (((Below.refl _ _).alloc (Nat.le_refl _) _).trans (B2.out.to_below (by simp) (fun k hk q => by omega)))
  have HBY0 : Hid (Below w.heap.size w w2) := Lib.hid ((HBv.out.trans (B1.out.mono (by have := HSV.out; omega))).trans (B12.out.mono (by have := HS1.out; omega)))
  have R92 : Hid (w2.heap[w.heap.size]? = some (.cells #[.int .i64 0, .int .i64 0] 29 (0, 0))) := Lib.hid ((B12.out.block _ (by have := HS1.out; omega)).trans ((B1.out.block _ (by have := HSV.out; omega)).trans R9.out))
  have c10 : w2.cell? ⟨w1.heap.size, 0, none⟩ = some (.int .i64 k) := by rw [cell_of_row w2 w1.heap.size 0 _ 29 (0, 0) RF0.out, HVF.out]; rfl
  have hl10 : w1.heap.size < w2.heap.size := by have := HS2.out; omega
  go_upto_region 3 with fail
  obtain ⟨wy, hwy⟩ : ∃ x, w2 = x := ⟨_, rfl⟩
  rw [hwy]
  have HBY : Hid (Below w.heap.size w wy) := Lib.hid (by rw [← hwy]; exact HBY0.out)
  have R9y : Hid (wy.heap[w.heap.size]? = some (.cells #[.int .i64 0, .int .i64 0] 29 (0, 0))) := Lib.hid (by rw [← hwy]; exact R92.out)
  have RF : Hid (wy.heap[w1.heap.size]? = some (.cells vf 29 (0, 0))) := Lib.hid (by rw [← hwy]; exact RF0.out)
  have h1w : w.heap.size + 1 ≤ w1.heap.size := HS1.out
  clear hwy c10 hl10
  refine wp_region_held_drew (S := But (fun k => k = w.heap.size) wy) (by kernel_rfl) (But.refl _ _).drew (fun hHeld => ?_)
  refine wpAnyH_take (i := 0) (v := _) rfl (by kernel_rfl) (by kernel_rfl) (by kernel_rfl) (fun _ _ _ h => h) (yieldsIf_load_row (by rfl) 29 _ (by rfl) w1.heap.size (by rfl) 29 vf (0, 0) _ (fun w h => (But.same h _ (Array.getElem?_eq_some_iff.1 RF.out).1 (by omega)).trans RF.out) Tryz.underlying29 rfl Ivf.out) (by assumption) ?_
  try simp only [Act.put, List.getElem_toArray, List.getElem_cons_zero, List.setIfInBounds_toArray, List.set_cons_zero, List.set_cons_succ]
  refine wpAnyH_take (i := 1) (v := ?tv2) rfl (by kernel_rfl) (by kernel_rfl) (by kernel_rfl) (fun _ _ _ h => h) (Or.inl ⟨by rfl, ?ty2⟩) (by assumption) ?tr2
  case ty2 => (intro w hSw; (try dsimp only at hSw); go_simp; (try with_reducible rfl))
  try simp only [Act.put, List.getElem_toArray, List.getElem_cons_zero, List.getElem_cons_succ, List.setIfInBounds_toArray, List.set_cons_zero, List.set_cons_succ]
  refine wpAnyH_ready (rs := [2]) (by kernel_rfl) (by simp) ?_
  refine AllReadyH.cons (i := 2) rfl (fun K2 hK2 => ?_) AllReadyH.nil
  rw [if_pos (by rfl)]
  refine wp_store_row 29 _ _ rfl w.heap.size vf rfl rfl 29 _ (R9y.out) Ivf.out (by rw [Zvf.out]; rfl) Ovf.out ?_
  refine hK2.out _ _ (show But (fun k => k = w.heap.size) wy _ from ((But.refl (fun k => k = w.heap.size) wy).drew.setRow w.heap.size vf (fun _ => by omega))) (fun hHeld2 => ?_)
  clear hK2 K2
  try simp only [Act.put, List.getElem_toArray, List.getElem_cons_zero, List.getElem_cons_succ]
  refine wpAnyH_done (by kernel_rfl) ?_ _
  clear hHeld
  go_wp2_with fail
  refine bodyPost_ret (v := .tuple #[.slice none 0 0, .agg vf]) (results_tmp_row rfl _ _ w.heap.size 29 vf (0, 0) _ rfl (setRow_heap wy.drew _ _ _ _ _ R9y.out) Tryz.underlying29 rfl Ivf.out _ rfl) rfl ⟨rfl, ?_⟩
  exact below_setRow HBY.out.drew _ _ (by omega)
set_option maxRecDepth 100000 in
set_option maxHeartbeats 4000000 in
theorem refpath_off (x sz ix : Int) (lA pA : Option Addr) (n m lcap pcap : Nat) (w : World) (hx0 : 0 ≤ x) (hx1 : x < 18446744073709551616) (hs0 : 0 ≤ sz) (hs1 : sz < 18446744073709551616) (hi0 : 0 ≤ ix) (hi1 : ix < 18446744073709551616) (hn : n ≤ 9223372036854775807) (hm : m ≤ 9223372036854775807) (hk0 : batchK x sz n m = 0) (ho : ix < x ∨ (n : Int) ≤ ix - x) :
    Calls Tryz.prog 7 #[.int .u64 x, .int .u64 sz, .slice lA n lcap, .slice pA m pcap, .int .u64 ix] w fun ev w' => ev = .returned (.tuple #[.slice none 0 0, faultV 5]) ∧ Below w.heap.size w w' := by
  obtain ⟨vf, evf, HVF, Zvf, Ivf, Ovf⟩ := fault_of (batchK x sz n m)
  have HFV : Hid (∀ w', Calls Tryz.prog 27 #[.int .u64 x, .int .u64 sz, .slice lA n lcap, .slice pA m pcap] w' fun ev w2 => ev = .returned (.agg vf) ∧ Below w'.heap.size w' w2) := Lib.hid (fun w' => by
    have := refwrong_any x sz lA pA n m lcap pcap w' hx0 hx1 hs0 hs1 hn hm
    rw [evf] at this; exact this)
  obtain ⟨wv, hwv⟩ : ∃ x, w.alloc (.cells #[.int .i64 0, .int .i64 0] 29) = x := ⟨_, rfl⟩
  have HBv : Hid (Below w.heap.size w wv) := Lib.hid (by rw [← hwv]; exact (Below.refl _ _).alloc (Nat.le_refl _) _)
  have HSV : Hid (wv.heap.size = w.heap.size + 1) := Lib.hid (by rw [← hwv]; simp)
  have R9 : Hid (wv.heap[w.heap.size]? = some (.cells #[.int .i64 0, .int .i64 0] 29 (0, 0))) := Lib.hid (by rw [← hwv]; exact heap_at _ _ _ rfl)
  have HWV := Lib.hid hwv
  have EVF := Lib.hid evf
  rw [hk0] at HVF
  have hkb : (((0 : Nat) : Int) != 0) = false := by simp
  obtain ⟨v5, ev5, HV5, Zv5, Iv5, Ov5⟩ := fault_of 5
  have HP5 : Hid (∀ w, Calls Tryz.prog 16 #[.int .i64 5] w fun ev w' => ev = .returned (.agg v5) ∧ Below w.heap.size w w') := Lib.hid (fun w => by rw [HV5.out]; exact plain5 w)
  rw [ev5]
  have HXI : Hid (ix - x < 18446744073709551616) := Lib.hid (by omega)
  have hn8 : (n : Int) < 18446744073709551616 := by omega
  clear hwv evf ev5 hx1 hs0 hs1 hn hm hk0
  go_enter Tryz.func7, Tryz.ntmps7
  go_upto_region 1 with fail
  rw [HWV.out]
  go_wp2_with fail
  refine (HFV.out wv).mono ?_
  rintro ev w1 ⟨rfl, b1⟩
  have B1 := Lib.hid b1
  have HS1 : Hid (w.heap.size + 1 ≤ w1.heap.size) := Lib.hid (by have := b1.size; have := HSV.out; omega)
  clear b1
  go_upto_region 2 with (refine wpList_store_row_any rfl 29 _ _ rfl w1.heap.size vf rfl rfl 29 _ (heap_at _ _ _ rfl) Ivf.out (by rw [Zvf.out]; rfl) Ovf.out ?_; intro w2 hb2 hg2 hs2; have B2 := Lib.hid hb2; have RF0 := Lib.hid hg2; have HS2 : Hid (w2.heap.size = w1.heap.size + 1) := Lib.hid (hs2.trans (by simp)); clear hb2 hg2 hs2)
  have B12 : Hid (Below w1.heap.size w1 w2) := Lib.hid (((Below.refl _ _).alloc (Nat.le_refl _) _).trans (B2.out.to_below (by simp) (fun k hk q => by omega)))
  have HBY0 : Hid (Below w.heap.size w w2) := Lib.hid ((HBv.out.trans (B1.out.mono (by have := HSV.out; omega))).trans (B12.out.mono (by have := HS1.out; omega)))
  have R92 : Hid (w2.heap[w.heap.size]? = some (.cells #[.int .i64 0, .int .i64 0] 29 (0, 0))) := Lib.hid ((B12.out.block _ (by have := HS1.out; omega)).trans ((B1.out.block _ (by have := HSV.out; omega)).trans R9.out))
  have c10 : w2.cell? ⟨w1.heap.size, 0, none⟩ = some (.int .i64 (0 : Nat)) := by rw [cell_of_row w2 w1.heap.size 0 _ 29 (0, 0) RF0.out, HVF.out]; rfl
  have hl10 : w1.heap.size < w2.heap.size := by have := HS2.out; omega
  have HFIN : Hid (Below w.heap.size w w2 ∧ w.heap.size < w2.heap.size ∧ w2.heap[w.heap.size]? = some (.cells #[.int .i64 0, .int .i64 0] 29 (0, 0))) := Lib.hid ⟨HBY0.out, by have := HS2.out; have := HS1.out; omega, R92.out⟩
  by_cases hlt : ix < x
  · have hd1 : decide (ix < x) = true := by simp; exact hlt
    clear ho hx0 hi0 hi1
    go_wp2_with fail
    refine (HP5.out _).mono ?_
    rintro ev w3 ⟨rfl, b3⟩
    have R93 : Hid (w3.heap[w.heap.size]? = some (.cells #[.int .i64 0, .int .i64 0] 29 (0, 0))) := Lib.hid ((Below.block (show Gr w2 w3 from (by repeat (first | exact Gr.refl _ | (refine Gr.step ?_ (by assumption)) | (refine Gr.alloc ?_ _) | (refine Gr.drew ?_)))) _ HFIN.out.2.1).trans HFIN.out.2.2)
    have HB3 : Hid (Below w.heap.size w w3) := Lib.hid (HFIN.out.1.trans (Below.mono (show Gr w2 w3 from (by repeat (first | exact Gr.refl _ | (refine Gr.step ?_ (by assumption)) | (refine Gr.alloc ?_ _) | (refine Gr.drew ?_)))) HFIN.out.1.size))
    clear b3
    go_wp2_with (refine wpList_store_row rfl 29 _ _ rfl w.heap.size v5 rfl rfl 29 _ R93.out Iv5.out (by rw [Zv5.out]; rfl) Ov5.out ?_)
    refine bodyPost_ret (v := .tuple #[.slice none 0 0, .agg v5]) (results_tmp_row rfl _ _ w.heap.size 29 v5 (0, 0) _ rfl (setRow_heap _ _ _ _ _ _ R93.out) Tryz.underlying29 rfl Iv5.out _ rfl) rfl ⟨rfl, ?_⟩
    exact below_setRow HB3.out _ _ (by omega)
  · have hd1 : decide (ix < x) = false := by simp; omega
    have hge : decide (ix - x ≥ (n : Int)) = true := by simp; omega
    have hge2 : decide ((n : Int) ≤ ix - x) = true := by simp; omega
    have h0 : 0 ≤ ix - x := by omega
    have h1 := HXI.out
    clear ho hlt
    go_wp2_with fail
    refine (HP5.out _).mono ?_
    rintro ev w3 ⟨rfl, b3⟩
    have R93 : Hid (w3.heap[w.heap.size]? = some (.cells #[.int .i64 0, .int .i64 0] 29 (0, 0))) := Lib.hid ((Below.block (show Gr w2 w3 from (by repeat (first | exact Gr.refl _ | (refine Gr.step ?_ (by assumption)) | (refine Gr.alloc ?_ _) | (refine Gr.drew ?_)))) _ HFIN.out.2.1).trans HFIN.out.2.2)
    have HB3 : Hid (Below w.heap.size w w3) := Lib.hid (HFIN.out.1.trans (Below.mono (show Gr w2 w3 from (by repeat (first | exact Gr.refl _ | (refine Gr.step ?_ (by assumption)) | (refine Gr.alloc ?_ _) | (refine Gr.drew ?_)))) HFIN.out.1.size))
    clear b3
    go_wp2_with (refine wpList_store_row rfl 29 _ _ rfl w.heap.size v5 rfl rfl 29 _ R93.out Iv5.out (by rw [Zv5.out]; rfl) Ov5.out ?_)
    refine bodyPost_ret (v := .tuple #[.slice none 0 0, .agg v5]) (results_tmp_row rfl _ _ w.heap.size 29 v5 (0, 0) _ rfl (setRow_heap _ _ _ _ _ _ R93.out) Tryz.underlying29 rfl Iv5.out _ rfl) rfl ⟨rfl, ?_⟩
    exact below_setRow HB3.out _ _ (by omega)
theorem path_len {x sz ix : Int} {L P : List (List UInt8)} (h0 : x ≤ ix) (h1 : ix - x < (L.length : Int)) (hx0 : 0 ≤ x) (hz : ix < sz) (hz9 : sz ≤ 9223372036854775808) : (pathL 64 ix 0 sz).length = (pathB x sz L P ix).length := by
  have := congrArg List.length (findF_path nodeH 64 x (x + L.length) (leafAt x L) ix 0 sz P (by omega) hz h0 (by omega) (by rw [pow2_64]; omega))
  rw [List.length_map, List.length_map] at this
  exact this
theorem path_said {x sz ix : Int} {L P : List (List UInt8)} (hl : H32 L) (hp : H32 P) (h0 : x ≤ ix) (h1 : ix - x < (L.length : Int)) (hx0 : 0 ≤ x) (hz : ix < sz) (hz9 : sz ≤ 9223372036854775808) (hb : (batchL 64 x (x + L.length) 0 sz).length ≤ P.length) (j : Nat) (p q : Int) (hj : (pathL 64 ix 0 sz)[j]? = some (p, q)) :
    ∃ y, (pathB x sz L P ix)[j]? = some y ∧ y.length = 32 ∧ findF nodeH 64 x (x + L.length) (leafAt x L) 0 sz P p q = some y := by
  have := congrArg (fun l => l[j]?) (findF_path nodeH 64 x (x + L.length) (leafAt x L) ix 0 sz P (by omega) hz h0 (by omega) (by rw [pow2_64]; omega))
  simp only [List.getElem?_map, hj, Option.map_some] at this
  obtain ⟨y, h2, h3⟩ := Option.map_eq_some_iff.1 this.symm
  exact ⟨y, h2, findF_len32 64 x L hl 0 sz p q P hp (by omega) hb (by rw [pow2_64]; omega) y h3.symm, h3.symm⟩
theorem path_32 {x sz ix : Int} {L P : List (List UInt8)} (hl : H32 L) (hp : H32 P) (h0 : x ≤ ix) (h1 : ix - x < (L.length : Int)) (hx0 : 0 ≤ x) (hz : ix < sz) (hz9 : sz ≤ 9223372036854775808) (hb : (batchL 64 x (x + L.length) 0 sz).length ≤ P.length) : H32 (pathB x sz L P ix) := fun y hy => by
  obtain ⟨j, hj⟩ := List.mem_iff_getElem?.1 hy
  have hjl := (List.getElem?_eq_some_iff.1 hj).1
  rw [← path_len (P := P) h0 h1 hx0 hz hz9] at hjl
  obtain ⟨y2, h2, h3, _⟩ := path_said hl hp h0 h1 hx0 hz hz9 hb j _ _ (List.getElem?_eq_getElem hjl)
  rw [hj] at h2; cases h2; exact h3
set_option maxRecDepth 100000 in
set_option maxHeartbeats 8000000 in
theorem refpath_ok (x sz ix : Int) (lA pA : Option Addr) (lcap pcap : Nat) (L P : List (List UInt8)) (w : World) (hl : HIn w lA L.length lcap L) (hp : HIn w pA P.length pcap P) (hx0 : 0 ≤ x) (hx1 : x < 18446744073709551616) (hs0 : 0 ≤ sz) (hs1 : sz < 18446744073709551616) (hi1 : ix < 18446744073709551616) (hk0 : batchK x sz L.length P.length = 0) (ho0 : x ≤ ix) (ho1 : ix - x < (L.length : Int)) :
    Calls Tryz.prog 7 #[.int .u64 x, .int .u64 sz, .slice lA L.length lcap, .slice pA P.length pcap, .int .u64 ix] w fun ev w' => H32 (pathB x sz L P ix) ∧ ∃ v, ev = .returned (.tuple #[v, faultV 0]) ∧ w'.ownsRow w.heap.size 75 32 v (pathB x sz L P ix).length (hashCells (pathB x sz L P ix)) ∧ Below w.heap.size w w' := by
  have hbk := hk0
  unfold batchK at hbk
  have hL0 : L.length ≠ 0 := fun e => by rw [if_pos e] at hbk; cases hbk
  rw [if_neg hL0] at hbk
  have hrg : ¬ (9223372036854775808 < sz ∨ sz < x ∨ sz - x < (L.length : Int)) := fun e => by rw [if_pos e] at hbk; cases hbk
  rw [if_neg hrg] at hbk
  have hbl : (batchL 64 x (x + L.length) 0 sz).length = P.length := Classical.not_not.1 (fun e => by rw [if_pos e] at hbk; cases hbk)
  have hz : ix < sz := by omega
  have hz9 : sz ≤ 9223372036854775808 := by omega
  have hi0 : 0 ≤ ix := by omega
  have HL := Lib.hid hl
  have HP := Lib.hid hp
  have hn : L.length ≤ 9223372036854775807 := Nat.le_trans hl.2.2.1 hl.2.2.2.1
  have hm : P.length ≤ 9223372036854775807 := Nat.le_trans hp.2.2.1 hp.2.2.2.1
  have HA : Hid (0 < sz ∧ sz ≤ 9223372036854775808 ∧ 0 ≤ x ∧ 0 + (batchL 64 x (x + L.length) 0 sz).length ≤ P.length) := Lib.hid (by omega)
  have lr : (rootB x sz L P).length = 32 := root_len hl.1 hp.1 hs0 hx0 hk0
  obtain ⟨vr, evr, Hvr, Zvr, Ivr, Ovr⟩ := row_of (rootB x sz L P) lr
  have HSAY : ∀ (j : Nat) (p q : Int), (pathL 64 ix 0 sz)[j]? = some (p, q) → ∃ y, (pathB x sz L P ix)[j]? = some y ∧ y.length = 32 ∧ ∀ (W : Nat) (w' : World), Below w.heap.size w w' → w.heap.size ≤ W → GAt w' W x (.slice lA L.length lcap) (.slice pA P.length pcap) 0 → Calls Tryz.prog 29 #[.pointer (some ⟨W, 0, none⟩), .agg #[.int .u64 0, .int .u64 sz], .agg #[.int .u64 p, .int .u64 q]] w' fun ev w2 => ev = .returned (.tuple #[.agg vr, .bool true, hv y]) ∧ But (· = W) w' w2 := fun j p q hj => by
    obtain ⟨y, hy, yl, hf⟩ := path_said HL.out.1 HP.out.1 ho0 ho1 hx0 hz hz9 (by have := HA.out.2.2.2; omega) j p q hj
    refine ⟨y, hy, yl, fun W w' hb hW hG => ?_⟩
    have hat : ∀ (A : Option Addr) (c : Nat) (l : List (List UInt8)), HIn w A l.length c l → HAt w' A w.heap.size l := fun A c l h => by
      by_cases hl0 : l = []
      · exact .inl hl0
      · obtain ⟨g, o, h1, h2⟩ := h.2.2.2.2.resolve_left hl0
        have hg := rangeAt_lt h2 (hashCells_ne h.1 hl0)
        exact .inr ⟨g, o, h1, rangeAt_below hb h2 hg, hg⟩
    have := rsays_any w.heap.size W hW x HA.out.2.2.1 lA pA L P lcap pcap HL.out.1 HP.out.1 HL.out.2.2.1 HL.out.2.2.2.1 HP.out.2.2.1 HP.out.2.2.2.1 p q 64 0 sz 0 w' hG (hat _ _ _ HL.out) (hat _ _ _ HP.out) (by omega) HA.out.1 HA.out.2.1 (by rw [pow2_64]; have := HA.out.2.1; omega) HA.out.2.2.2
    rw [List.drop_zero, hf] at this
    refine this.mono ?_
    rintro ev w2 ⟨q1, _, q3⟩
    refine ⟨?_, q3⟩
    rw [q1]
    unfold saidV
    rw [show hv (sayF nodeH 64 x (x + L.length) (leafAt x L) 0 sz P).1 = .agg vr from evr]
    rfl
  have H32T := Lib.hid (path_32 HL.out.1 HP.out.1 ho0 ho1 hx0 hz hz9 (by have := HA.out.2.2.2; omega))
  have HTL := path_len (P := P) ho0 ho1 hx0 hz hz9
  have HTM : (pathB x sz L P ix).length ≤ 64 := pathB_len x sz L P ix
  have HPA0 := fun w => refPath_ok ix sz w hi0 hz hz9
  obtain ⟨n, hn'⟩ : ∃ n, L.length = n := ⟨_, rfl⟩
  obtain ⟨m, hm'⟩ : ∃ m, P.length = m := ⟨_, rfl⟩
  rw [hn'] at hn hk0 ho1
  rw [hm'] at hm hk0
  rw [hn', hm']
  simp only [hn', hm'] at HSAY
  obtain ⟨T, hT⟩ : ∃ T, pathB x sz L P ix = T := ⟨_, rfl⟩
  obtain ⟨l, hll⟩ : ∃ l, pathL 64 ix 0 sz = l := ⟨_, rfl⟩
  rw [hT, hll] at HTL
  rw [hT] at H32T HTM
  simp only [hT, hll] at HSAY
  simp only [hll] at HPA0
  rw [hT]
  obtain ⟨r, hr⟩ : ∃ r, T.length = r := ⟨_, rfl⟩
  rw [hr] at HTL HTM ⊢
  simp only [HTL] at HPA0
  have HPS := Lib.hid HSAY
  have HPA := Lib.hid HPA0
  have HTR := Lib.hid hr
  have HLR := Lib.hid HTL
  clear HSAY HPA0 hT hll hr HTL hz hz9
  obtain ⟨vf, evf, HVF, Zvf, Ivf, Ovf⟩ := fault_of (batchK x sz n m)
  have HFV : Hid (∀ w', Calls Tryz.prog 27 #[.int .u64 x, .int .u64 sz, .slice lA n lcap, .slice pA m pcap] w' fun ev w2 => ev = .returned (.agg vf) ∧ Below w'.heap.size w' w2) := Lib.hid (fun w' => by
    have := refwrong_any x sz lA pA n m lcap pcap w' hx0 hx1 hs0 hs1 hn hm
    rw [evf] at this; exact this)
  obtain ⟨wv, hwv⟩ : ∃ x, w.alloc (.cells #[.int .i64 0, .int .i64 0] 29) = x := ⟨_, rfl⟩
  have HBv : Hid (Below w.heap.size w wv) := Lib.hid (by rw [← hwv]; exact (Below.refl _ _).alloc (Nat.le_refl _) _)
  have HSV : Hid (wv.heap.size = w.heap.size + 1) := Lib.hid (by rw [← hwv]; simp)
  have R9 : Hid (wv.heap[w.heap.size]? = some (.cells #[.int .i64 0, .int .i64 0] 29 (0, 0))) := Lib.hid (by rw [← hwv]; exact heap_at _ _ _ rfl)
  have HWV := Lib.hid hwv
  have EVF := Lib.hid evf
  rw [hk0] at HVF
  rw [show faultV 0 = .agg vf by rw [← hk0]; exact evf]
  have hkb : (((0 : Nat) : Int) != 0) = false := by simp
  have HXB := Lib.hid (And.intro hx0 (And.intro hx1 (And.intro hs0 hs1)))
  have hd1 : decide (ix < x) = false := by simp; omega
  have hd2 : decide (ix - x ≥ (n : Int)) = false := by simp; omega
  have hd3 : decide ((n : Int) ≤ ix - x) = false := by simp; omega
  have HO := Lib.hid ho1
  have hix : ix - x < 18446744073709551616 := by omega
  have hix0 : 0 ≤ ix - x := by omega
  have hn8 : (n : Int) < 18446744073709551616 := by omega
  have HR64 := Lib.hid HTM
  obtain ⟨i0, hi, hz0, hz1, hz2⟩ := info_parts info_hash
  have hbx : (Tryz.prog.info? 101).map (·.size) = some 2 := by kernel_rfl
  clear hwv evf evr hx1 hs1 hn hm hk0 hl hp hbk hL0 hrg hbl lr hn' hm' ho1 HTM
  go_enter Tryz.func7, Tryz.ntmps7
  go_upto_region 1 with fail
  rw [HWV.out]
  go_wp2_with fail
  refine (HFV.out wv).mono ?_
  rintro ev w1 ⟨rfl, b1⟩
  have B1 := Lib.hid b1
  have HS1 : Hid (w.heap.size + 1 ≤ w1.heap.size) := Lib.hid (by have := b1.size; have := HSV.out; omega)
  clear b1
  go_upto_region 2 with (refine wpList_store_row_any rfl 29 _ _ rfl w1.heap.size vf rfl rfl 29 _ (heap_at _ _ _ rfl) Ivf.out (by rw [Zvf.out]; rfl) Ovf.out ?_; intro w2 hb2 hg2 hs2; have B2 := Lib.hid hb2; have RF0 := Lib.hid hg2; have HS2 : Hid (w2.heap.size = w1.heap.size + 1) := Lib.hid (hs2.trans (by simp)); clear hb2 hg2 hs2)
  have B12 : Hid (Below w1.heap.size w1 w2) := Lib.hid (((Below.refl _ _).alloc (Nat.le_refl _) _).trans (B2.out.to_below (by simp) (fun k hk q => by omega)))
  have HBY0 : Hid (Below w.heap.size w w2) := Lib.hid ((HBv.out.trans (B1.out.mono (by have := HSV.out; omega))).trans (B12.out.mono (by have := HS1.out; omega)))
  have R92 : Hid (w2.heap[w.heap.size]? = some (.cells #[.int .i64 0, .int .i64 0] 29 (0, 0))) := Lib.hid ((B12.out.block _ (by have := HS1.out; omega)).trans ((B1.out.block _ (by have := HSV.out; omega)).trans R9.out))
  have c10 : w2.cell? ⟨w1.heap.size, 0, none⟩ = some (.int .i64 (0 : Nat)) := by rw [cell_of_row w2 w1.heap.size 0 _ 29 (0, 0) RF0.out, HVF.out]; rfl
  have hl10 : w1.heap.size < w2.heap.size := by have := HS2.out; omega
  go_wp2_with fail
  refine (HPA.out w2).mono ?_
  rintro ev w5 ⟨v1, rfl, o1, b5⟩
  obtain ⟨As, cs, rfl, hcs⟩ := own_shape o1
  have HO1 := Lib.hid o1
  have B5 := Lib.hid b5
  clear o1 b5 c10 hl10
  go_wp2_with (refine wpList_store_row_any rfl 29 _ _ rfl w5.heap.size #[.int .i64 0, .int .i64 0] rfl rfl 29 _ (heap_at _ _ _ rfl) (by kernel_rfl) rfl (by simp [Value.oneCell']) ?_; intro w6 hb6 hg6 hs6; have B6 := Lib.hid hb6; have HS6 : Hid (w6.heap.size = w5.heap.size + 1) := Lib.hid (hs6.trans (by simp)); clear hb6 hg6 hs6)
  have B56 : Hid (Below w5.heap.size w5 w6) := Lib.hid (((Below.refl _ _).alloc (Nat.le_refl _) _).trans (B6.out.to_below (by simp) (fun k hk q => by omega)))
  have B26 : Hid (Below w2.heap.size w2 w6) := Lib.hid (B5.out.trans (B56.out.mono B5.out.size))
  have HBL : Hid (Below w.heap.size w w6) := Lib.hid (HBY0.out.trans (B26.out.mono HBY0.out.size))
  have R9l : Hid (w6.heap[w.heap.size]? = some (.cells #[.int .i64 0, .int .i64 0] 29 (0, 0))) := Lib.hid ((B26.out.block _ (Array.getElem?_eq_some_iff.1 R92.out).1).trans R92.out)
  have RFl : Hid (w6.heap[w1.heap.size]? = some (.cells vf 29 (0, 0))) := Lib.hid ((B26.out.block _ (Array.getElem?_eq_some_iff.1 RF0.out).1).trans RF0.out)
  have HL6 : Hid (w.heap.size + 2 ≤ w6.heap.size) := Lib.hid (by have := B26.out.size; have := HS2.out; have := HS1.out; omega)
  obtain ⟨_, A', c', hv', hsr⟩ := rd_own (own_below HO1.out B56.out (Nat.le_refl _))
  cases hv'
  have HSR := Lib.hid hsr
  have hr64 := HR64.out
  clear hsr hcs
  (try clear hn8)
  (try clear hix)
  (try clear hix0)
  (try clear hd1)
  (try clear hd2)
  (try clear hd3)
  (try clear hkb)
  (try clear hi1)
  (try clear hi0)
  (try clear hs0)
  (try clear hx0)
  (try clear ho0)
  go_loopw [15, 16] (fun o i wr => ∃ k Aq cq, k ≤ r ∧ i = .int .i64 (k : Nat) ∧ o = .slice Aq k cq ∧ k ≤ cq ∧ Hid (wr.ownsRow w6.heap.size 75 32 (.slice Aq k cq) k (hashCells (T.take k))) ∧ Hid (Gr w6 wr)) (fun _ i _ => r - (intOf i).toNat)
  case atStart => exact ⟨0, none, 0, Nat.zero_le _, rfl, rfl, Nat.le_refl _, Lib.hid (by simpa [hashCells] using World.ownsRow_nil _ _ _ _), Lib.hid (Gr.refl _)⟩
  case round =>
    obtain ⟨k, Aq, cq, hk, rfl, rfl, hkc, HO, HG⟩ := hrel
    by_cases hlt : k < r
    · obtain ⟨⟨p, q⟩, hp⟩ : ∃ s, l[k]? = some s := ⟨_, List.getElem?_eq_getElem (by have := HLR.out; omega)⟩
      obtain ⟨y, hy, yl, hsay⟩ := HPS.out k p q hp
      obtain ⟨g, rfl, hcc⟩ : ∃ g, As = some ⟨g, 0, none⟩ ∧ ∀ j u, (spanCells l)[j]? = some u → w6.cell? ⟨g, j, none⟩ = some u := by
        rcases HSR.out with z | z
        · omega
        · exact z
      have hat := spanCells_at l k (p, q) hp
      have s0 := cell_below HG.out (hcc _ _ hat.1) (block_of_cell (hcc _ _ hat.1))
      have s1 := cell_below HG.out (hcc _ _ hat.2) (block_of_cell (hcc _ _ hat.2))
      simp only at s0 s1
      have HTK : Hid (T.take (k + 1) = T.take k ++ [y]) := Lib.hid (by rw [List.take_add_one, hy]; rfl)
      obtain ⟨outk, houtk⟩ : ∃ o, T.take k = o := ⟨_, rfl⟩
      rw [houtk] at HO HTK
      obtain ⟨vy, evy, Hvy, Zvy, Ivy, Ovy⟩ := row_of y yl
      have HX := Lib.hid (And.intro yl Hvy.out)
      have i1 : (k : Int) < r := by omega
      have i0' : (0 : Int) ≤ k := by omega
      have HSAY := Lib.hid hsay
      have EVY := Lib.hid evy
      clear hp hat hcc hy yl houtk evy hsay
      go_upto_region 12 with fail
      obtain ⟨ws, hws⟩ : ∃ ws, wr.alloc (.cells #[.int .u64 x, .slice lA n lcap, .slice pA m pcap, .int .i64 0] 97) = ws := ⟨_, rfl⟩
      have bs : Below wr.heap.size wr ws := by rw [← hws]; exact (Below.refl _ _).alloc (Nat.le_refl _) _
      have GB : Hid (GAt ws wr.heap.size x (.slice lA n lcap) (.slice pA m pcap) 0) := Lib.hid (by rw [← hws]; exact heap_at _ _ _ rfl)
      have HSS : Hid (ws.heap.size = wr.heap.size + 1) := Lib.hid (by rw [← hws]; simp)
      have t0 := cell_below bs s0 (block_of_cell s0)
      have t1 := cell_below bs s1 (block_of_cell s1)
      have BS := Lib.hid bs
      have CS : Hid (Calls Tryz.prog 29 #[.pointer (some ⟨wr.heap.size, 0, none⟩), .agg #[.int .u64 0, .int .u64 sz], .agg #[.int .u64 p, .int .u64 q]] ws fun ev w2 => ev = .returned (.tuple #[.agg vr, .bool true, .agg vy]) ∧ But (· = wr.heap.size) ws w2) := Lib.hid (by
        have := HSAY.out wr.heap.size ws (HBL.out.trans ((HG.out.trans (BS.out.mono HG.out.size)).mono HBL.out.size)) (by have := HG.out.size; have := HL6.out; omega) GB.out
        rw [EVY.out] at this; exact this)
      rw [hws]
      clear hws s0 s1 bs
      go_wp2_with fail
      refine CS.out.mono ?_
      rintro ev w4 ⟨rfl, b4⟩
      have B4 := Lib.hid b4
      have HS4 : Hid (wr.heap.size + 1 ≤ w4.heap.size) := Lib.hid (by have := b4.size; have := HSS.out; omega)
      clear b4 t0 t1
      go_upto_region 13 with (first
        | (refine wpList_store_row_any rfl 75 _ _ rfl w4.heap.size vr rfl rfl 75 _ ((((Below.refl _ (w4.alloc _)).alloc (Nat.le_refl _) _).block _ (by simp)).trans (heap_at _ _ _ rfl)) Ivr.out (by rw [Zvr.out]; rfl) Ovr.out ?_; intro w7 hbA hgA hsA; have BA := Lib.hid hbA; have SA : Hid (w7.heap.size = w4.heap.size + 1 + 1) := Lib.hid (hsA.trans (by simp)); clear hbA hgA hsA)
        | (refine wpList_store_row_any rfl 75 _ _ rfl (w4.heap.size + 1) vy rfl rfl 75 _ ((BA.out.same _ (by simp) (by omega)).trans (heap_at _ _ _ (by simp))) Ivy.out (by rw [Zvy.out]; rfl) Ovy.out ?_; intro wy hbB hgB hsB; have BC := Lib.hid hbB; have RY := Lib.hid hgB; have SB : Hid (wy.heap.size = w4.heap.size + 1 + 1) := Lib.hid (hsB.trans SA.out); clear hbB hgB hsB))
      have B4Y : Hid (Below w4.heap.size w4 wy) := Lib.hid ((((Below.refl _ _).alloc (Nat.le_refl _) _).alloc (by simp) _).trans (((BA.out.mono (T := fun k => k = w4.heap.size ∨ k = w4.heap.size + 1) (fun _ _ q => .inl q)).step BC.out (fun _ _ q => .inr q)).to_below (by simp; omega) (fun k hk q => by omega)))
      have bW2 : Hid (Gr wr wy) := Lib.hid (show Below wr.heap.size wr wy from (BS.out.trans (B4.out.to_below (by have := HSS.out; omega) (fun k hk q => by omega))).trans (B4Y.out.mono (by have := HS4.out; omega)))
      have gW2 : Hid (Gr w6 wy) := Lib.hid (show Below w6.heap.size w6 wy from HG.out.trans (Below.mono bW2.out HG.out.size))
      have HO2 : Hid ((wy.alloc (.cells vy 75)).ownsRow w6.heap.size 75 32 (.slice Aq k cq) k (hashCells outk)) := Lib.hid (own_below (own_below HO.out bW2.out (Nat.le_refl _)) ((Below.refl _ _).alloc (Nat.le_refl _) _) (Nat.le_refl _))
      go_wp2_with (first
        | (refine wpList_load_row rfl 75 _ rfl (w4.heap.size + 1) rfl 75 vy (0, 0) _ RY.out Tryz.underlying75 rfl Ivy.out ?_)
        | (refine wpList_buildSlice_row rfl 23 75 _ vy _ 32 rfl rfl Tryz.underlying23 Tryz.sizeOf75 Tryz.zeroValue75 rfl Zvy.out (by omega) (by omega) ?_)
        | (refine wpList_append_list rfl _ _ 23 rfl w6.heap.size wy.heap.size 75 i0 _ 32 32 Tryz.underlying23 hi hz0 hz1 hz2 rfl (by omega) (.slice Aq k cq) _ k 1 (hashCells outk) (hashCells [y]) rfl rfl (HO2.out) (own_one wy wy.heap.size vy y HX.out.1 HX.out.2 (Nat.le_refl _)) (hashCells_cell _) (by unfold maxLen; omega) (by omega) (by simp; have := gW2.out.size; omega) ?_; intro v' w9 hown hgrow hblk; obtain ⟨A9, c9, rfl, hc9⟩ := own_shape hown; have HN9 := Lib.hid (And.intro hown (And.intro hgrow hblk)); clear hown hgrow hblk))
      go_roundw
      case rel => exact ⟨k + 1, A9, c9, by omega, by go_num, rfl, hc9, Lib.hid (own_congr HN9.out.1 rfl (by rw [HTK.out, hashCells_append])), Lib.hid ((((Below.refl _ wy).alloc (Nat.le_refl _) _).mono gW2.out.size |> gW2.out.trans).grown HN9.out.2.1 (by simp; have := gW2.out.size; omega) (fun q hq => (HO2.out.lt q hq).1))⟩
      case measure => simp [intOf]; omega
    · obtain rfl : r = k := by omega
      have HT1 : Hid (T.take r = T) := Lib.hid (List.take_of_length_le (by rw [HTR.out]; exact Nat.le_refl _))
      rw [HT1.out] at HO
      obtain ⟨wy, rfl⟩ : ∃ z, z = wr := ⟨_, rfl⟩
      have HBY : Hid (Below w.heap.size w wy) := Lib.hid (HBL.out.trans (HG.out.mono HBL.out.size))
      have R9y : Hid (wy.heap[w.heap.size]? = some (.cells #[.int .i64 0, .int .i64 0] 29 (0, 0))) := Lib.hid ((HG.out.block _ (Array.getElem?_eq_some_iff.1 R9l.out).1).trans R9l.out)
      have RF : Hid (wy.heap[w1.heap.size]? = some (.cells vf 29 (0, 0))) := Lib.hid ((HG.out.block _ (Array.getElem?_eq_some_iff.1 RFl.out).1).trans RFl.out)
      have h1w : w.heap.size + 1 ≤ w1.heap.size := HS1.out
      go_upto_region 14 with fail
      refine wp_region_held_drew (S := But (fun k => k = w.heap.size) wy) (by kernel_rfl) (But.refl _ _).drew (fun hHeld => ?_)
      refine wpAnyH_take (i := 0) (v := ?tv3) rfl (by kernel_rfl) (by kernel_rfl) (by kernel_rfl) (fun _ _ _ h => h) (Or.inl ⟨by rfl, ?ty3⟩) (by assumption) ?tr3
      case ty3 => (intro w hSw; (try dsimp only at hSw); go_simp; (try with_reducible rfl))
      try simp only [Act.put, List.getElem_toArray, List.getElem_cons_zero, List.setIfInBounds_toArray, List.set_cons_zero, List.set_cons_succ]
      refine wpAnyH_take (i := 1) (v := _) rfl (by kernel_rfl) (by kernel_rfl) (by kernel_rfl) (fun _ _ _ h => h) (yieldsIf_load_row (by rfl) 29 _ (by rfl) w1.heap.size (by rfl) 29 vf (0, 0) _ (fun w h => (But.same h _ (Array.getElem?_eq_some_iff.1 RF.out).1 (by omega)).trans RF.out) Tryz.underlying29 rfl Ivf.out) (by assumption) ?_
      try simp only [Act.put, List.getElem_toArray, List.getElem_cons_zero, List.getElem_cons_succ, List.setIfInBounds_toArray, List.set_cons_zero, List.set_cons_succ]
      refine wpAnyH_take (i := 2) (v := ?tv5) rfl (by kernel_rfl) (by kernel_rfl) (by kernel_rfl) (fun _ _ _ h => h) (Or.inl ⟨by rfl, ?ty5⟩) (by assumption) ?tr5
      case ty5 => (intro w hSw; (try dsimp only at hSw); go_simp; (try with_reducible rfl))
      try simp only [Act.put, List.getElem_toArray, List.getElem_cons_zero, List.getElem_cons_succ, List.setIfInBounds_toArray, List.set_cons_zero, List.set_cons_succ]
      refine wpAnyH_ready (rs := [3]) (by kernel_rfl) (by simp) ?_
      refine AllReadyH.cons (i := 3) rfl (fun K2 hK2 => ?_) AllReadyH.nil
      rw [if_pos (by rfl)]
      refine wp_store_row 29 _ _ rfl w.heap.size vf rfl rfl 29 _ (R9y.out) Ivf.out (by rw [Zvf.out]; rfl) Ovf.out ?_
      refine hK2.out _ _ (show But (fun k => k = w.heap.size) wy _ from ((But.refl (fun k => k = w.heap.size) wy).drew.setRow w.heap.size vf (fun _ => by omega))) (fun hHeld2 => ?_)
      clear hK2 K2
      try simp only [Act.put, List.getElem_toArray, List.getElem_cons_zero, List.getElem_cons_succ]
      refine wpAnyH_done (by kernel_rfl) ?_ _
      clear hHeld
      go_wp2_with fail
      refine bodyPost_ret (v := .tuple #[.slice Aq r cq, .agg vf]) (results_tmp_row rfl _ _ w.heap.size 29 vf (0, 0) _ rfl (setRow_heap wy.drew _ _ _ _ _ R9y.out) Tryz.underlying29 rfl Ivf.out _ rfl) rfl ⟨H32T.out, _, rfl, ?_, ?_⟩
      · exact own_mono (own_but HO.out (((But.refl (fun k => k = w.heap.size) wy).drew).setRow w.heap.size vf (fun _ => rfl)) (fun k hk q => by have := (HO.out.lt k hk).1; have := HL6.out; omega)) (by have := HL6.out; omega)
      · exact below_setRow HBY.out.drew _ _ (by omega)
end Go.Proofs.YtchfbdbgmlcfiaaGreatDoor

/- batch.Path and cartularyref19.Path: one answer. Condition: the package-level variables read as listed (batch.Path). -/
namespace Go.Proofs.YtchfbdbgmlcfiaaGreatDoor
open Go.ChangeShapes Go.WideShapes Go.ChangeAt Go.RowKit
set_option linter.unusedVariables false
/-- the error's number; 0: none -/
def pathK (x sz : Int) (n m : Nat) (ix : Int) : Nat := if batchK x sz n m = 0 then (if ix < x ∨ (n : Int) ≤ ix - x then 5 else 0) else batchK x sz n m
/-- the path; with an error none -/
def pathH (x sz : Int) (L P : List (List UInt8)) (ix : Int) : List (List UInt8) := if pathK x sz L.length P.length ix = 0 then pathB x sz L P ix else []
theorem pathK_16 (x sz : Int) (n m : Nat) (ix : Int) : pathK x sz n m ix ≤ 16 := by
  have : batchK x sz n m ≤ 16 := by
    unfold batchK
    split
    · omega
    · split
      · omega
      · split <;> omega
  unfold pathK; split
  · split <;> omega
  · exact this
theorem pathH_len (x sz : Int) (L P : List (List UInt8)) (ix : Int) : (pathH x sz L P ix).length ≤ 64 := by
  unfold pathH; split
  · exact pathB_len _ _ _ _ _
  · simp
/-- a list of its own and an error -/
def PathOut (w : World) (H : List (List UInt8)) (e : Value) (ev : Ending) (w' : World) : Prop := H32 H ∧ ∃ v, ev = .returned (.tuple #[v, e]) ∧ w'.ownsRow w.heap.size 75 32 v H.length (hashCells H) ∧ Below w.heap.size w w'

theorem bpath_gen (a : Nat → Addr) (B : Nat) (x sz ix : Int) (lA pA : Option Addr) (n m lcap pcap : Nat) (L P : List (List UInt8)) (w : World) (hE : Env B a w) (hl : HIn w lA n lcap L) (hp : HIn w pA m pcap P) (hx0 : 0 ≤ x) (hx1 : x < 18446744073709551616) (hs0 : 0 ≤ sz) (hs1 : sz < 18446744073709551616) (hi0 : 0 ≤ ix) (hi1 : ix < 18446744073709551616) :
    Calls Tryz.prog 8 #[.int .u64 x, .int .u64 sz, .slice lA n lcap, .slice pA m pcap, .int .u64 ix] w (PathOut w (pathH x sz L P ix) (errK a (pathK x sz L.length P.length ix))) := by
  have e1 := hl.2.1
  have e2 := hp.2.1
  subst e1 e2
  have hn : L.length ≤ 9223372036854775807 := Nat.le_trans hl.2.2.1 hl.2.2.2.1
  have hm : P.length ≤ 9223372036854775807 := Nat.le_trans hp.2.2.1 hp.2.2.2.1
  by_cases hk : batchK x sz L.length P.length = 0
  · by_cases ho : ix < x ∨ (L.length : Int) ≤ ix - x
    · have hK : pathK x sz L.length P.length ix = 5 := by unfold pathK; rw [if_pos hk, if_pos ho]
      have hH : pathH x sz L P ix = [] := by unfold pathH; rw [if_neg (by rw [hK]; decide)]
      rw [hK, hH]
      refine (bpath_off a B x sz ix lA pA _ _ lcap pcap w hE hx0 hx1 hs0 hs1 hn hm hk hi0 hi1 ho).mono ?_
      rintro ev w' ⟨rfl, b⟩
      exact ⟨H32.nil, _, rfl, by simpa [hashCells] using World.ownsRow_nil _ _ _ _, b⟩
    · have hK : pathK x sz L.length P.length ix = 0 := by unfold pathK; rw [if_pos hk, if_neg ho]
      have hH : pathH x sz L P ix = pathB x sz L P ix := by unfold pathH; rw [if_pos hK]
      rw [hK, hH]
      refine (bpath_ok a B x sz ix lA pA lcap pcap L P w hE hl hp hx0 hx1 hs0 hs1 hk (by omega) (by omega)).mono ?_
      rintro ev w' ⟨h32, v, rfl, o, b⟩
      exact ⟨h32, v, rfl, o, b⟩
  · have hK : pathK x sz L.length P.length ix = batchK x sz L.length P.length := by unfold pathK; rw [if_neg hk]
    have hH : pathH x sz L P ix = [] := by unfold pathH; rw [if_neg (by rw [hK]; exact hk)]
    rw [hK, hH]
    refine (bpath_bad a B x sz ix lA pA _ _ lcap pcap w hE hx0 hx1 hs0 hs1 hn hm _ rfl hk).mono ?_
    rintro ev w' ⟨rfl, b⟩
    exact ⟨H32.nil, _, by (first | rfl | (unfold errK; rw [if_neg hk])), by simpa [hashCells] using World.ownsRow_nil _ _ _ _, b⟩

theorem refpath_gen (x sz ix : Int) (lA pA : Option Addr) (n m lcap pcap : Nat) (L P : List (List UInt8)) (w : World) (hl : HIn w lA n lcap L) (hp : HIn w pA m pcap P) (hx0 : 0 ≤ x) (hx1 : x < 18446744073709551616) (hs0 : 0 ≤ sz) (hs1 : sz < 18446744073709551616) (hi0 : 0 ≤ ix) (hi1 : ix < 18446744073709551616) :
    Calls Tryz.prog 7 #[.int .u64 x, .int .u64 sz, .slice lA n lcap, .slice pA m pcap, .int .u64 ix] w (PathOut w (pathH x sz L P ix) (faultV (pathK x sz L.length P.length ix))) := by
  have e1 := hl.2.1
  have e2 := hp.2.1
  subst e1 e2
  have hn : L.length ≤ 9223372036854775807 := Nat.le_trans hl.2.2.1 hl.2.2.2.1
  have hm : P.length ≤ 9223372036854775807 := Nat.le_trans hp.2.2.1 hp.2.2.2.1
  by_cases hk : batchK x sz L.length P.length = 0
  · by_cases ho : ix < x ∨ (L.length : Int) ≤ ix - x
    · have hK : pathK x sz L.length P.length ix = 5 := by unfold pathK; rw [if_pos hk, if_pos ho]
      have hH : pathH x sz L P ix = [] := by unfold pathH; rw [if_neg (by rw [hK]; decide)]
      rw [hK, hH]
      refine (refpath_off x sz ix lA pA _ _ lcap pcap w hx0 hx1 hs0 hs1 hi0 hi1 hn hm hk ho).mono ?_
      rintro ev w' ⟨rfl, b⟩
      exact ⟨H32.nil, _, rfl, by simpa [hashCells] using World.ownsRow_nil _ _ _ _, b⟩
    · have hK : pathK x sz L.length P.length ix = 0 := by unfold pathK; rw [if_pos hk, if_neg ho]
      have hH : pathH x sz L P ix = pathB x sz L P ix := by unfold pathH; rw [if_pos hK]
      rw [hK, hH]
      refine (refpath_ok x sz ix lA pA lcap pcap L P w hl hp hx0 hx1 hs0 hs1 hi1 hk (by omega) (by omega)).mono ?_
      rintro ev w' ⟨h32, v, rfl, o, b⟩
      exact ⟨h32, v, rfl, o, b⟩
  · have hK : pathK x sz L.length P.length ix = batchK x sz L.length P.length := by unfold pathK; rw [if_neg hk]
    have hH : pathH x sz L P ix = [] := by unfold pathH; rw [if_neg (by rw [hK]; exact hk)]
    rw [hK, hH]
    refine (refpath_bad x sz ix lA pA _ _ lcap pcap w hx0 hx1 hs0 hs1 hi0 hi1 hn hm hk).mono ?_
    rintro ev w' ⟨rfl, b⟩
    exact ⟨H32.nil, _, by (first | rfl | (unfold errK; rw [if_neg hk])), by simpa [hashCells] using World.ownsRow_nil _ _ _ _, b⟩

end Go.Proofs.YtchfbdbgmlcfiaaGreatDoor

/- The law BatchPaths. Condition: the package-level variables read as listed. -/
namespace Go.Proofs.YtchfbdbgmlcfiaaGreatDoor
open Go.ChangeShapes Go.WideShapes Go.ChangeAt Go.RowKit
set_option linter.unusedVariables false

set_option maxRecDepth 100000 in
set_option maxHeartbeats 8000000 in
theorem paths_great (a : Nat → Addr) (B : Nat) (x sz ix : Int) (A1 A2 : Option Addr) (n1 k1 n2 k2 : Nat) (L P : List (List UInt8)) (w : World) (hE : Env B a w) (h1 : HIn w A1 n1 k1 L) (h2 : HIn w A2 n2 k2 P) (m1 : n1 ≤ 9000000000000000000) (m2 : n2 ≤ 9000000000000000000) (hx0 : 0 ≤ x) (hx1 : x < 18446744073709551616) (hs0 : 0 ≤ sz) (hs1 : sz < 18446744073709551616) (hi0 : 0 ≤ ix) (hi1 : ix < 18446744073709551616) (hg : 1048576 < n1 + n2) :
    Calls Tryz.prog 3 #[.int .u64 x, .int .u64 sz, .agg #[.slice A1 n1 k1, .slice A2 n2 k2, .int .u64 ix]] w fun ev w' => ev = .returned (.bool true) ∧ Below w.heap.size w w' := by
  have hgd : decide (1048576 < n1 + n2) = true := by simpa using hg
  have HE := Lib.hid hE
  have H1 := Lib.hid h1
  have H2 := Lib.hid h2
  have hwb : w.heap.size < (w.alloc (.cells #[.slice A1 n1 k1, .slice A2 n2 k2, .int .u64 ix] 25)).heap.size := by simp
  have c0 : (w.alloc (.cells #[.slice A1 n1 k1, .slice A2 n2 k2, .int .u64 ix] 25)).cell? ⟨w.heap.size, 0, none⟩ = some (.slice A1 n1 k1) := cell_new _ _ 0 _ rfl
  have c1 : (w.alloc (.cells #[.slice A1 n1 k1, .slice A2 n2 k2, .int .u64 ix] 25)).cell? ⟨w.heap.size, 1, none⟩ = some (.slice A2 n2 k2) := cell_new _ _ 1 _ rfl
  have c2 : (w.alloc (.cells #[.slice A1 n1 k1, .slice A2 n2 k2, .int .u64 ix] 25)).cell? ⟨w.heap.size, 2, none⟩ = some (.int .u64 ix) := cell_new _ _ 2 _ rfl
  have gb : Gr w (w.alloc (.cells #[.slice A1 n1 k1, .slice A2 n2 k2, .int .u64 ix] 25)) := (Gr.refl _).alloc _
  obtain ⟨wb, hwb'⟩ : ∃ wb, (w.alloc (.cells #[.slice A1 n1 k1, .slice A2 n2 k2, .int .u64 ix] 25)) = wb := ⟨_, rfl⟩
  rw [hwb'] at hwb c0 c1 c2 gb
  have gb : Below w.heap.size w wb := gb
  have HWB := Lib.hid hwb'
  have hbx : (Tryz.prog.info? 25).map (·.size) = some 3 := by kernel_rfl
  have HGA : Hid (∀ w, Calls Tryz.prog 5 #[.agg #[.slice A1 n1 k1, .slice A2 n2 k2, .int .u64 ix]] w fun ev w' => ev = .returned (.bool (decide (1048576 < n1 + n2))) ∧ Below w.heap.size w w') := Lib.hid (fun w => great_any A1 A2 n1 k1 n2 k2 ix w m1 m2)
  clear hwb' hE h1 h2 m1 m2
  clear hg
  go_enter Tryz.func3, Tryz.ntmps3
  go_upto_region 1 with fail
  rw [HWB.out]
  go_wp2_with fail
  refine (HGA.out wb).mono ?_
  rintro ev w2 ⟨rfl, b2⟩
  rw [hgd]
  go_wp2
  go_ret
  exact ⟨rfl, show Gr w _ from (by repeat (first | exact Gr.refl _ | (refine Gr.step ?_ (by assumption)) | (refine Gr.alloc ?_ _) | (refine Gr.drew ?_)))⟩

set_option maxRecDepth 100000 in
set_option maxHeartbeats 8000000 in
theorem paths_any (a : Nat → Addr) (B : Nat) (x sz ix : Int) (A1 A2 : Option Addr) (n1 k1 n2 k2 : Nat) (L P : List (List UInt8)) (w : World) (hE : Env B a w) (h1 : HIn w A1 n1 k1 L) (h2 : HIn w A2 n2 k2 P) (m1 : n1 ≤ 9000000000000000000) (m2 : n2 ≤ 9000000000000000000) (hx0 : 0 ≤ x) (hx1 : x < 18446744073709551616) (hs0 : 0 ≤ sz) (hs1 : sz < 18446744073709551616) (hi0 : 0 ≤ ix) (hi1 : ix < 18446744073709551616) (hg : ¬ 1048576 < n1 + n2) :
    Calls Tryz.prog 3 #[.int .u64 x, .int .u64 sz, .agg #[.slice A1 n1 k1, .slice A2 n2 k2, .int .u64 ix]] w fun ev w' => ev = .returned (.bool true) ∧ Below w.heap.size w w' := by
  have hgd : decide (1048576 < n1 + n2) = false := by simp; omega
  have HN : Hid (n1 ≤ 1048576 ∧ n2 ≤ 1048576) := Lib.hid (by omega)
  have HLP : Hid (L.length = n1 ∧ P.length = n2 ∧ H32 L ∧ H32 P) := Lib.hid ⟨h1.2.1, h2.2.1, h1.1, h2.1⟩
  obtain ⟨K, hK⟩ : ∃ k, pathK x sz L.length P.length ix = k := ⟨_, rfl⟩
  have hK16 : K ≤ 16 := by rw [← hK]; exact pathK_16 _ _ _ _ _
  obtain ⟨vf, evf, HVF, Zvf, Ivf, Ovf⟩ := fault_of K
  obtain ⟨e0, he0⟩ : ∃ v : Value, errK a K = v := ⟨_, rfl⟩
  have SAME0 : Hid (∀ w, Env B a w → Calls Tryz.prog 10 #[e0, .agg vf] w fun ev w' => ev = .returned (.bool true) ∧ Below w.heap.size w w') := Lib.hid (fun w h => by rw [← he0, ← evf]; exact same_fault a B K w h.laid hK16)
  have hHl := pathH_len x sz L P ix
  have CRP0 : ∀ (A A' : Option Addr) (c c' : Nat) w, HIn w A n1 c L → HIn w A' n2 c' P → Calls Tryz.prog 7 #[.int .u64 x, .int .u64 sz, .slice A n1 c, .slice A' n2 c', .int .u64 ix] w (PathOut w (pathH x sz L P ix) (.agg vf)) := fun A A' c c' w q1 q2 => by
    have := refpath_gen x sz ix A A' n1 n2 c c' L P w q1 q2 hx0 hx1 hs0 hs1 hi0 hi1
    rw [hK, evf] at this; exact this
  have CBP0 : ∀ (A A' : Option Addr) (c c' : Nat) w, Env B a w → HIn w A n1 c L → HIn w A' n2 c' P → Calls Tryz.prog 8 #[.int .u64 x, .int .u64 sz, .slice A n1 c, .slice A' n2 c', .int .u64 ix] w (PathOut w (pathH x sz L P ix) e0) := fun A A' c c' w hh q1 q2 => by
    have := bpath_gen a B x sz ix A A' n1 n2 c c' L P w hh q1 q2 hx0 hx1 hs0 hs1 hi0 hi1
    rw [hK, he0] at this; exact this
  obtain ⟨T, hT⟩ : ∃ T, pathH x sz L P ix = T := ⟨_, rfl⟩
  rw [hT] at hHl CRP0 CBP0
  have CRP := Lib.hid CRP0
  have CBP := Lib.hid CBP0
  obtain ⟨n, hn⟩ : ∃ n, T.length = n := ⟨_, rfl⟩
  have HTN := Lib.hid hn
  have HSM : Hid (∀ (A A' : Option Addr) (c c' : Nat) w, HIn w A n c T → HIn w A' n c' T → Calls Tryz.prog 9 #[.slice A n c, .slice A' n c'] w fun ev w' => ev = .returned (.bool true) ∧ Below w.heap.size w w') := Lib.hid (fun A A' c c' w q1 q2 => by
    have := same_hashes T T A A' n n c c' w (by omega) q1 q2
    simpa using this)
  have HNL : Hid (n ≤ 64) := Lib.hid (by rw [← hn]; exact hHl)
  clear hK hK16 evf he0 hHl CRP0 CBP0 hT hn hg
  have HE := Lib.hid hE
  have H1 := Lib.hid h1
  have H2 := Lib.hid h2
  have hwb : w.heap.size < (w.alloc (.cells #[.slice A1 n1 k1, .slice A2 n2 k2, .int .u64 ix] 25)).heap.size := by simp
  have c0 : (w.alloc (.cells #[.slice A1 n1 k1, .slice A2 n2 k2, .int .u64 ix] 25)).cell? ⟨w.heap.size, 0, none⟩ = some (.slice A1 n1 k1) := cell_new _ _ 0 _ rfl
  have c1 : (w.alloc (.cells #[.slice A1 n1 k1, .slice A2 n2 k2, .int .u64 ix] 25)).cell? ⟨w.heap.size, 1, none⟩ = some (.slice A2 n2 k2) := cell_new _ _ 1 _ rfl
  have c2 : (w.alloc (.cells #[.slice A1 n1 k1, .slice A2 n2 k2, .int .u64 ix] 25)).cell? ⟨w.heap.size, 2, none⟩ = some (.int .u64 ix) := cell_new _ _ 2 _ rfl
  have gb : Gr w (w.alloc (.cells #[.slice A1 n1 k1, .slice A2 n2 k2, .int .u64 ix] 25)) := (Gr.refl _).alloc _
  obtain ⟨wb, hwb'⟩ : ∃ wb, (w.alloc (.cells #[.slice A1 n1 k1, .slice A2 n2 k2, .int .u64 ix] 25)) = wb := ⟨_, rfl⟩
  rw [hwb'] at hwb c0 c1 c2 gb
  have gb : Below w.heap.size w wb := gb
  have HWB := Lib.hid hwb'
  have hbx : (Tryz.prog.info? 25).map (·.size) = some 3 := by kernel_rfl
  have HGA : Hid (∀ w, Calls Tryz.prog 5 #[.agg #[.slice A1 n1 k1, .slice A2 n2 k2, .int .u64 ix]] w fun ev w' => ev = .returned (.bool (decide (1048576 < n1 + n2))) ∧ Below w.heap.size w w') := Lib.hid (fun w => great_any A1 A2 n1 k1 n2 k2 ix w m1 m2)
  clear hwb' hE h1 h2 m1 m2
  go_enter Tryz.func3, Tryz.ntmps3
  go_upto_region 1 with fail
  rw [HWB.out]
  go_wp2_with fail
  refine (HGA.out wb).mono ?_
  rintro ev w2 ⟨rfl, b2⟩
  rw [hgd]
  have d0w2 := cell_below (show Gr wb w2 from (by repeat (first | exact Gr.refl _ | (refine Gr.step ?_ (by assumption)) | (refine Gr.alloc ?_ _) | (refine Gr.drew ?_)))) c0 hwb; have d1w2 := cell_below (show Gr wb w2 from (by repeat (first | exact Gr.refl _ | (refine Gr.step ?_ (by assumption)) | (refine Gr.alloc ?_ _) | (refine Gr.drew ?_)))) c1 hwb; have d2w2 := cell_below (show Gr wb w2 from (by repeat (first | exact Gr.refl _ | (refine Gr.step ?_ (by assumption)) | (refine Gr.alloc ?_ _) | (refine Gr.drew ?_)))) c2 hwb
  go_wp2_with fail
  refine (twin_any A1 n1 k1 L w2 (H1.out.below (show Gr w w2 from (by repeat (first | exact Gr.refl _ | (refine Gr.step ?_ (by assumption)) | (refine Gr.alloc ?_ _) | (refine Gr.drew ?_))))) HN.out.1).mono ?_
  rintro ev w3 ⟨rfl, t1, b3⟩
  have T1 := Lib.hid t1
  have d0w3 := cell_below (show Gr wb w3 from (by repeat (first | exact Gr.refl _ | (refine Gr.step ?_ (by assumption)) | (refine Gr.alloc ?_ _) | (refine Gr.drew ?_)))) c0 hwb; have d1w3 := cell_below (show Gr wb w3 from (by repeat (first | exact Gr.refl _ | (refine Gr.step ?_ (by assumption)) | (refine Gr.alloc ?_ _) | (refine Gr.drew ?_)))) c1 hwb; have d2w3 := cell_below (show Gr wb w3 from (by repeat (first | exact Gr.refl _ | (refine Gr.step ?_ (by assumption)) | (refine Gr.alloc ?_ _) | (refine Gr.drew ?_)))) c2 hwb
  clear t1
  clear d0w2 d1w2 d2w2
  go_wp2_with fail
  refine (twin_any A2 n2 k2 P w3 (H2.out.below (show Gr w w3 from (by repeat (first | exact Gr.refl _ | (refine Gr.step ?_ (by assumption)) | (refine Gr.alloc ?_ _) | (refine Gr.drew ?_))))) HN.out.2).mono ?_
  rintro ev w4 ⟨rfl, t2, b4⟩
  have T2 := Lib.hid t2
  have d0w4 := cell_below (show Gr wb w4 from (by repeat (first | exact Gr.refl _ | (refine Gr.step ?_ (by assumption)) | (refine Gr.alloc ?_ _) | (refine Gr.drew ?_)))) c0 hwb; have d1w4 := cell_below (show Gr wb w4 from (by repeat (first | exact Gr.refl _ | (refine Gr.step ?_ (by assumption)) | (refine Gr.alloc ?_ _) | (refine Gr.drew ?_)))) c1 hwb; have d2w4 := cell_below (show Gr wb w4 from (by repeat (first | exact Gr.refl _ | (refine Gr.step ?_ (by assumption)) | (refine Gr.alloc ?_ _) | (refine Gr.drew ?_)))) c2 hwb
  clear t2
  clear d0w3 d1w3 d2w3
  go_wp2_with fail
  refine (CRP.out A1 A2 k1 k2 w4 (H1.out.below (show Gr w w4 from (by repeat (first | exact Gr.refl _ | (refine Gr.step ?_ (by assumption)) | (refine Gr.alloc ?_ _) | (refine Gr.drew ?_))))) (H2.out.below (show Gr w w4 from (by repeat (first | exact Gr.refl _ | (refine Gr.step ?_ (by assumption)) | (refine Gr.alloc ?_ _) | (refine Gr.drew ?_)))))).mono ?_
  rintro ev w5 ⟨h32, v0, rfl, o0, b5⟩
  rw [HTN.out] at o0
  obtain ⟨A0, q0, rfl, hq0⟩ := own_shape o0
  have HW0 := Lib.hid (own_hin o0 h32 HTN.out)
  clear o0 h32 hq0
  go_upto_region 7 with (refine wpList_store_row_any rfl 29 _ _ rfl w5.heap.size vf rfl rfl 29 _ (heap_at _ _ _ rfl) Ivf.out (by rw [Zvf.out]; rfl) Ovf.out ?_; intro w6 hbN hgN hsN; have b6 : Below w5.heap.size w5 w6 := ((Below.refl _ w5).alloc (Nat.le_refl _) _).trans (hbN.to_below (by simp) (fun k hk q => by omega)); have RF6 := Lib.hid hgN; clear hbN hgN hsN)
  have KF : Hid (∀ w', Gr w6 w' → w'.heap[w5.heap.size]? = some (.cells vf 29 (0, 0))) := Lib.hid (fun w' h => (Below.block h _ (Array.getElem?_eq_some_iff.1 RF6.out).1).trans RF6.out)
  have D6 := Lib.hid (And.intro (cell_below (show Gr wb w6 from (by repeat (first | exact Gr.refl _ | (refine Gr.step ?_ (by assumption)) | (refine Gr.alloc ?_ _) | (refine Gr.drew ?_)))) c0 hwb) (And.intro (cell_below (show Gr wb w6 from (by repeat (first | exact Gr.refl _ | (refine Gr.step ?_ (by assumption)) | (refine Gr.alloc ?_ _) | (refine Gr.drew ?_)))) c1 hwb) (show w.heap.size < w6.heap.size by have := (show Gr wb w6 from (by repeat (first | exact Gr.refl _ | (refine Gr.step ?_ (by assumption)) | (refine Gr.alloc ?_ _) | (refine Gr.drew ?_)))).size; omega)))
  clear d0w4 d1w4 d2w4
  go_wp2_with fail
  refine (CBP.out _ _ _ _ w6 (HE.out.step (show Gr w w6 from (by repeat (first | exact Gr.refl _ | (refine Gr.step ?_ (by assumption)) | (refine Gr.alloc ?_ _) | (refine Gr.drew ?_))))) ((T1.out.below (show Gr w3 w6 from (by repeat (first | exact Gr.refl _ | (refine Gr.step ?_ (by assumption)) | (refine Gr.alloc ?_ _) | (refine Gr.drew ?_))))).hin HLP.out.1 HN.out.1) ((T2.out.below (show Gr w4 w6 from (by repeat (first | exact Gr.refl _ | (refine Gr.step ?_ (by assumption)) | (refine Gr.alloc ?_ _) | (refine Gr.drew ?_))))).hin HLP.out.2.1 HN.out.2)).mono ?_
  rintro ev w7 ⟨h32, v1, rfl, o1, b7⟩
  rw [HTN.out] at o1
  obtain ⟨A3, q3, rfl, hq3⟩ := own_shape o1
  have HO1 := Lib.hid o1
  have HW1 := Lib.hid (own_hin o1 h32 HTN.out)
  clear o1 h32 hq3
  go_wp2_with fail
  refine (CBP.out _ _ _ _ w7 (HE.out.step (show Gr w w7 from (by repeat (first | exact Gr.refl _ | (refine Gr.step ?_ (by assumption)) | (refine Gr.alloc ?_ _) | (refine Gr.drew ?_))))) ((T1.out.below (show Gr w3 w7 from (by repeat (first | exact Gr.refl _ | (refine Gr.step ?_ (by assumption)) | (refine Gr.alloc ?_ _) | (refine Gr.drew ?_))))).hin HLP.out.1 HN.out.1) ((T2.out.below (show Gr w4 w7 from (by repeat (first | exact Gr.refl _ | (refine Gr.step ?_ (by assumption)) | (refine Gr.alloc ?_ _) | (refine Gr.drew ?_))))).hin HLP.out.2.1 HN.out.2)).mono ?_
  rintro ev w8 ⟨h32, v2, rfl, o2, b8⟩
  rw [HTN.out] at o2
  obtain ⟨A4, q4, rfl, hq4⟩ := own_shape o2
  have HO2 := Lib.hid o2
  have HW2 := Lib.hid (own_hin o2 h32 HTN.out)
  have HAP : Hid ((Value.slice A3 n q3).ownBlock = none ∨ (Value.slice A3 n q3).ownBlock ≠ (Value.slice A4 n q4).ownBlock) := Lib.hid (by
    cases hq : (Value.slice A3 n q3).ownBlock with
    | none => exact .inl rfl
    | some g => exact .inr (fun q => by have := (HO1.out.lt g hq).2; have := (HO2.out.lt g q.symm).1; omega))
  clear o2 h32 hq4
  go_wp2_with fail
  refine (HSM.out A3 A0 q3 q0 w8 (HW1.out.below (show Gr w7 w8 from (by repeat (first | exact Gr.refl _ | (refine Gr.step ?_ (by assumption)) | (refine Gr.alloc ?_ _) | (refine Gr.drew ?_))))) (HW0.out.below (show Gr w5 w8 from (by repeat (first | exact Gr.refl _ | (refine Gr.step ?_ (by assumption)) | (refine Gr.alloc ?_ _) | (refine Gr.drew ?_)))))).mono ?_
  rintro ev w9 ⟨rfl, b9⟩
  go_wp2_with fail
  refine (HSM.out A4 A0 q4 q0 w9 (HW2.out.below (show Gr w8 w9 from (by repeat (first | exact Gr.refl _ | (refine Gr.step ?_ (by assumption)) | (refine Gr.alloc ?_ _) | (refine Gr.drew ?_))))) (HW0.out.below (show Gr w5 w9 from (by repeat (first | exact Gr.refl _ | (refine Gr.step ?_ (by assumption)) | (refine Gr.alloc ?_ _) | (refine Gr.drew ?_)))))).mono ?_
  rintro ev w10 ⟨rfl, b10⟩
  go_wp2_with (refine wpList_load_row_g rfl 29 _ rfl w5.heap.size rfl 29 vf (0, 0) _ (KF.out w10 (show Gr w6 w10 from (by repeat (first | exact Gr.refl _ | (refine Gr.step ?_ (by assumption)) | (refine Gr.alloc ?_ _) | (refine Gr.drew ?_))))) Tryz.underlying29 rfl Ivf.out ?_)
  refine (SAME0.out w10 (HE.out.step (show Gr w w10 from (by repeat (first | exact Gr.refl _ | (refine Gr.step ?_ (by assumption)) | (refine Gr.alloc ?_ _) | (refine Gr.drew ?_)))))).mono ?_
  rintro ev w11 ⟨rfl, b11⟩
  go_wp2_with (refine wpList_load_row_g rfl 29 _ rfl w5.heap.size rfl 29 vf (0, 0) _ (KF.out w11 (show Gr w6 w11 from (by repeat (first | exact Gr.refl _ | (refine Gr.step ?_ (by assumption)) | (refine Gr.alloc ?_ _) | (refine Gr.drew ?_))))) Tryz.underlying29 rfl Ivf.out ?_)
  refine (SAME0.out w11 (HE.out.step (show Gr w w11 from (by repeat (first | exact Gr.refl _ | (refine Gr.step ?_ (by assumption)) | (refine Gr.alloc ?_ _) | (refine Gr.drew ?_)))))).mono ?_
  rintro ev w12 ⟨rfl, b12⟩
  have hbk := Lib.hid (bookHash_new w12)
  have b13 : Below w12.heap.size w12 (w12.alloc (.cells #[.int .i64 0, .slice none 0 0, .slice none 0 0, .slice none 0 0, .slice none 0 0, .slice none 0 0, .slice none 0 0, .slice none 0 0, .slice none 0 0, .slice none 0 0, .slice none 0 0, .slice none 0 0, .slice none 0 0, .slice none 0 0, .slice none 0 0, .slice none 0 0, .slice none 0 0] 56)) := (Below.refl _ _).alloc (Nat.le_refl _) _
  go_upto_region 12 with fail
  obtain ⟨W, hWW⟩ : ∃ W, w12.alloc (.cells #[.int .i64 0, .slice none 0 0, .slice none 0 0, .slice none 0 0, .slice none 0 0, .slice none 0 0, .slice none 0 0, .slice none 0 0, .slice none 0 0, .slice none 0 0, .slice none 0 0, .slice none 0 0, .slice none 0 0, .slice none 0 0, .slice none 0 0, .slice none 0 0, .slice none 0 0] 56) = W := ⟨_, rfl⟩
  rw [hWW] at hbk b13 ⊢
  have HKW : Hid (w12.heap.size < W.heap.size) := Lib.hid (by rw [← hWW]; simp)
  have HGW : Hid (Gr w6 W) := Lib.hid (show Gr w6 W from (Gr.step (Gr.step (Gr.step (Gr.step (Gr.step (Gr.step (Gr.step (Gr.refl _) b7) b8) b9) b10) b11) b12) b13))
  have HOA := Lib.hid (own_below HO1.out (show Below w7.heap.size w7 W from (show Gr w7 W from (Gr.step (Gr.step (Gr.step (Gr.step (Gr.step (Gr.step (Gr.refl _) b8) b9) b10) b11) b12) b13))) (Nat.le_refl _))
  have HOB := Lib.hid (own_mono (base' := w6.heap.size) (own_below HO2.out (show Below w8.heap.size w8 W from (show Gr w8 W from (Gr.step (Gr.step (Gr.step (Gr.step (Gr.step (Gr.refl _) b9) b10) b11) b12) b13))) (Nat.le_refl _)) b7.size)
  have HS12 : Hid (w6.heap.size ≤ w12.heap.size ∧ w7.heap.size ≤ w12.heap.size ∧ w8.heap.size ≤ w12.heap.size) := Lib.hid ⟨(show Gr w6 w12 from (Gr.step (Gr.step (Gr.step (Gr.step (Gr.step (Gr.step (Gr.refl _) b7) b8) b9) b10) b11) b12)).size, (show Gr w7 w12 from (Gr.step (Gr.step (Gr.step (Gr.step (Gr.step (Gr.refl _) b8) b9) b10) b11) b12)).size, (show Gr w8 w12 from (Gr.step (Gr.step (Gr.step (Gr.step (Gr.refl _) b9) b10) b11) b12)).size⟩
  have HG6 : Hid (Gr w w6) := Lib.hid (show Gr w w6 from (Gr.step (Gr.step (Gr.step (Gr.step (Gr.step (Gr.step (Gr.refl _) gb) b2) b3) b4) b5) b6))
  have HT1 : Hid (Twin w6 w2.heap.size L) := Lib.hid (T1.out.below (show Gr w3 w6 from (Gr.step (Gr.step (Gr.step (Gr.refl _) b4) b5) b6)))
  have HT2 : Hid (Twin w6 w3.heap.size P) := Lib.hid (T2.out.below (show Gr w4 w6 from (Gr.step (Gr.step (Gr.refl _) b5) b6)))
  clear hWW b2 b3 b4 b5 b6 b7 b8 b9 b10 b11 b12 b13 gb c0 c1 c2
  go_wp2_with fail
  refine (book_hash w6.heap.size w12.heap.size 0 0 none 0 0 [] A3 n q3 W hbk.out (World.ownsRow_nil _ _ _ _) (by simp [Value.ownBlock]) (by omega) (by omega) (by omega) (by have := HKW.out; have := HS12.out; omega)).mono ?_
  rintro ev w13 ⟨rfl, g1, cap1, hb5, o5, col5⟩
  have HB5 := Lib.hid hb5
  have HO5 := Lib.hid o5
  have HC5 := Lib.hid col5
  have HG1 : Hid (W.heap.size ≤ g1) := Lib.hid (by
    rcases col5.blk g1 rfl with q | q
    · cases q
    · exact q)
  have HS5 := Lib.hid col5.size
  clear hb5 o5 col5
  go_wp2_with fail
  refine (book_hash w6.heap.size w12.heap.size (0 + 1) (0 + 1) (some ⟨g1, 0, none⟩) (0 + 1) cap1 _ A4 n q4 w13 HB5.out HO5.out (by have := HG1.out; have := HKW.out; simp [Value.ownBlock]; omega) (by omega) (by omega) (by omega) (by have := HKW.out; have := HS12.out; have := HS5.out; omega)).mono ?_
  rintro ev w14 ⟨rfl, g2, cap2, hb6, o6, col6⟩
  have HB6 := Lib.hid hb6
  have hK1 : ∀ v : Value, (∀ g, v.ownBlock = some g → g < w12.heap.size) → some w12.heap.size ≠ v.ownBlock := fun v hv q => by have := hv _ q.symm; omega
  have HP := Lib.hid (pair_hash (K := w12.heap.size) (by have := HS12.out; omega) HKW.out HOA.out HOB.out (hK1 _ (fun g q => by have := (HO1.out.lt g q).2; have := HS12.out; omega)) (hK1 _ (fun g q => by have := (HO2.out.lt g q).2; have := HS12.out; omega)) HAP.out HC5.out col6 o6)
  have HS6 := Lib.hid col6.size
  clear hb6 o6 col6 hK1
  go_wp2_with fail
  refine (apart_hash w6.heap.size w12.heap.size g2 2 cap2 _ [⟨.slice A3 n q3, n, 1⟩, ⟨.slice A4 n q4, n, 2⟩] w14 rfl (by omega) (by have := HKW.out; have := HS12.out; have := HS5.out; have := HS6.out; omega) HB6.out HP.out.1 HP.out.2.2.2.1 HP.out.2.2.2.2.1 (by have := HS12.out; omega) HP.out.2.1 HP.out.2.2.1 ?_).mono ?_
  · have := HNL.out
    intro t h ht
    match t, ht with
    | 0, ht => cases ht; exact ⟨by simp only; omega, by simp only; omega, by simp only; omega⟩
    | 1, ht => cases ht; exact ⟨by simp only; omega, by simp only; omega, by simp only; omega⟩
    | t + 2, ht => simp at ht
  rintro ev w15 ⟨rfl, b15⟩
  have HB15 : Hid (Below w6.heap.size w6 w15) := Lib.hid ((show Below w6.heap.size w6 W from HGW.out).trans (HP.out.2.2.2.2.2.trans b15))
  clear b15
  have e0 := cell_below HB15.out D6.out.1 D6.out.2.2
  have e1 := cell_below HB15.out D6.out.2.1 D6.out.2.2
  go_wp2_with fail
  refine (left_any w2.heap.size n1 k1 A1 L w15 (HT1.out.below HB15.out) ((H1.out.below HG6.out).below HB15.out) HN.out.1).mono ?_
  rintro ev w16 ⟨rfl, b16⟩
  have HB16 : Hid (Below w6.heap.size w6 w16) := Lib.hid (HB15.out.trans (b16.mono HB15.out.size))
  clear b16 e0
  have e1 := cell_below HB16.out D6.out.2.1 D6.out.2.2
  go_wp2_with fail
  refine (left_any w3.heap.size n2 k2 A2 P w16 (HT2.out.below HB16.out) ((H2.out.below HG6.out).below HB16.out) HN.out.2).mono ?_
  rintro ev w17 ⟨rfl, b17⟩
  have HB17 : Hid (Below w6.heap.size w6 w17) := Lib.hid (HB16.out.trans (b17.mono HB16.out.size))
  clear b17
  go_wp2_with fail
  go_ret
  exact ⟨rfl, (show Below w.heap.size w w6 from HG6.out).trans (HB17.out.mono (show Below w.heap.size w w6 from HG6.out).size)⟩

end Go.Proofs.YtchfbdbgmlcfiaaGreatDoor

