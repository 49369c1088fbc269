/- plan.Fold and the reference's Fold: hashes folded from the right. Condition: the package-level variables read as listed. -/
import Derived.Test.YtdodfeoaioolnaaDoorRefRoot
import Derived.Test.YtdodfeoaioolnaaDoorProvesPlain
import Derived.Test.YtdodfeoaioolnaaDoorRefNode
import Derived.Deep.MidRow
import Derived.BigRegion
import Derived.Deep.Cut
import Derived.Deep.DeepCutAuto
namespace Go.Proofs.YtdodfeoaioolnaaDoor
open Go.ChangeShapes Go.WideShapes Go.ChangeAt Go.RowKit
set_option linter.unusedVariables false
theorem but_below {S : Nat → Prop} {w w' : World} (h : Below w.heap.size w w') : But S w w' := ⟨h.os, h.tape, h.output, h.size, fun k hk _ => h.block k hk⟩
theorem drop_last {α : Type} {l : List α} {n : Nat} {x : α} (hn : l.length = n + 1) (h : l[n]? = some x) : l.drop n = [x] := by
  have hl : n < l.length := by omega
  rw [List.drop_eq_getElem_cons hl]
  rw [List.getElem?_eq_getElem hl] at h
  rw [Option.some.inj h, List.drop_eq_nil_of_le (by omega)]
theorem drop_cons {α : Type} {l : List α} {j : Nat} {x : α} (h : l[j]? = some x) : l.drop j = x :: l.drop (j + 1) := by
  have hl := (List.getElem?_eq_some_iff.1 h).1
  rw [List.drop_eq_getElem_cons hl]
  rw [List.getElem?_eq_getElem hl] at h
  rw [Option.some.inj h]
theorem foldR_cons {x y : List UInt8} {r : List (List UInt8)} : foldR nodeH zeroH (x :: y :: r) = nodeH x (foldR nodeH zeroH (y :: r)) := rfl
theorem foldR_drop {l : List (List UInt8)} {j : Nat} {x : List UInt8} (h : l[j]? = some x) (h2 : j + 1 < l.length) : foldR nodeH zeroH (l.drop j) = nodeH x (foldR nodeH zeroH (l.drop (j + 1))) := by
  obtain ⟨y, hy⟩ : ∃ y, l[j + 1]? = some y := ⟨_, List.getElem?_eq_getElem h2⟩
  rw [drop_cons h, drop_cons hy]; rfl

set_option maxRecDepth 100000 in
set_option maxHeartbeats 4000000 in
theorem fold_ok (ps : List (List UInt8)) (A : Option Addr) (n cap : Nat) (w : World) (hK : KTab 18 w) (hn : n ≤ 1000000000000) (hI : HIn w A n cap ps) (hne : ps ≠ []) :
    Calls Tryd.prog 9 #[.slice A n cap] w fun ev w' => ev = .returned (.tuple #[hv (foldR nodeH zeroH ps), .nilIface]) ∧ Below w.heap.size w w' := by
  have hlen := hI.2.1
  obtain ⟨m, rfl⟩ : ∃ m, n = m + 1 := ⟨n - 1, by have := List.length_pos_iff.2 hne; omega⟩
  have HI := Lib.hid hI
  have HL := Lib.hid hlen
  obtain ⟨x, hx⟩ : ∃ x, ps[m]? = some x := ⟨_, List.getElem?_eq_getElem (by omega)⟩
  obtain ⟨g, o, rfl, gl, rx, xl⟩ := hI.row hx
  obtain ⟨vx, evx, Hvx, Zvx, Ivx, Ovx⟩ := row_of x xl
  obtain ⟨px, hpx⟩ : ∃ q, bytesV x = q := ⟨_, rfl⟩
  have HXV : Hid (px.toArray = vx) := Lib.hid (by rw [← hpx]; exact Hvx.out)
  have HIX : Hid ((Tryd.prog.info? 26).map (·.size) = some px.length) := Lib.hid (by rw [← hpx, bytesV_length, xl]; kernel_rfl)
  have HXL := Lib.hid xl
  obtain ⟨vz, evz, Hvz, Zvz, Ivz, Ovz⟩ := row_of zeroH zeroH_length
  obtain ⟨wv, hwv⟩ : ∃ y, (w.alloc (.cells (List.replicate 32 (Value.int .u8 0)).toArray 26)) = y := ⟨_, rfl⟩
  have HB : Hid (Below w.heap.size w wv) := Lib.hid (by rw [← hwv]; exact (Below.refl _ _).alloc (Nat.le_refl _) _)
  have hsz : w.heap.size + 1 = wv.heap.size := by rw [← hwv]; simp
  have R8 : Hid (wv.heap[w.heap.size]? = some (.cells (List.replicate 32 (Value.int .u8 0)).toArray 26 (0, 0))) := Lib.hid (by rw [← hwv]; exact heap_at _ _ _ rfl)

  have HWV := Lib.hid hwv
  simp only [List.replicate, List.toArray] at HWV
  have HR : Hid (wv.rangeAt g (o + m * 32) px) := Lib.hid (by rw [← hpx]; exact rangeAt_below HB.out rx gl)
  have HHX := Lib.hid hx
  have HK := Lib.hid hK
  have m0 : (0 : Int) ≤ m := by omega
  have hm1 : ((m : Int) + 1 == 0) = false := by simp; omega
  have hm2 : ((m : Int) + 1 = 0) = False := by simp; omega
  have m1 : (m : Int) < ((m + 1 : Nat) : Int) := by omega
  clear hI hlen hx rx xl hpx evx evz hwv hne gl hK
  go_enter Tryd.func9, Tryd.ntmps9
  go_upto_region 1 with fail
  rw [HWV.out]
  go_upto_region 4 with (first | (refine wpList_load_mid rfl 26 _ rfl g (o + m * 32) rfl px _ HR.out Tryd.underlying26 rfl HIX.out ?_; rw [HXV.out]) | (refine wpList_store_row_any rfl 26 _ _ rfl wv.heap.size vx rfl rfl 26 _ (heap_at _ _ _ rfl) Ivx.out (by rw [Zvx.out]; rfl) Ovx.out ?_; intro w3 hbN hgN hsN; have B3 : Hid (Below wv.heap.size wv w3 ∧ w3.heap.size = wv.heap.size + 1) := Lib.hid ⟨((Below.refl _ _).alloc (Nat.le_refl _) _).trans (hbN.to_below (by simp) (fun k hk q => by omega)), by rw [hsN]; simp⟩; have R13 := Lib.hid hgN; clear hbN hgN hsN))
  go_wp2_with fail
  go_loopw [5] (fun i wr => ∃ (k : Nat) (cur : List UInt8), k ≤ m ∧ i = .int .i64 ((k : Int) - 1) ∧ Hid (cur.length = 32 ∧ cur = foldR nodeH zeroH (ps.drop k)) ∧ Hid (wr.heap[wv.heap.size]? = some (.cells (bytesV cur).toArray 26 (0, 0))) ∧ Hid (But (fun k => k = wv.heap.size) w3 wr)) (fun i _ => (intOf i + 1).toNat)
  case atStart => exact ⟨m, x, Nat.le_refl _, by go_num, Lib.hid ⟨HXL.out, by rw [drop_last HL.out HHX.out]; rfl⟩, Lib.hid (by rw [show (bytesV x).toArray = vx from Hvx.out]; exact R13.out), Lib.hid (But.refl _ _)⟩
  case round =>
    obtain ⟨k, cur, hk, rfl, HC, KC, HBT⟩ := hrel
    obtain ⟨vc, evc, Hvc, Zvc, Ivc, Ovc⟩ := row_of cur HC.out.1
    rw [Hvc.out] at KC
    have hvr := (Array.getElem?_eq_some_iff.1 KC.out).1
    cases k with
    | succ j =>
      have ej : ((j + 1 : Nat) : Int) - 1 = (j : Int) := by omega
      rw [ej]
      have j0 : (0 : Int) ≤ j := by omega
      have j1 : (j : Int) < (m : Int) + 1 := by omega
      obtain ⟨p, hp⟩ : ∃ p, ps[j]? = some p := ⟨_, List.getElem?_eq_getElem (by have := HL.out; omega)⟩
      obtain ⟨g', o', hgo, gl', rp, pl⟩ := HI.out.row hp
      simp only [Option.some.injEq, Addr.mk.injEq, and_true] at hgo
      obtain ⟨rfl, rfl⟩ := hgo
      obtain ⟨pp, hpp⟩ : ∃ q, bytesV p = q := ⟨_, rfl⟩
      have HIP : Hid ((Tryd.prog.info? 26).map (·.size) = some pp.length) := Lib.hid (by rw [← hpp, bytesV_length, pl]; kernel_rfl)
      have HBW : Hid (∀ w', But (fun k => k = wv.heap.size) wr w' → Below w.heap.size w w') := Lib.hid (fun w' h => (HB.out.trans (B3.out.1.mono (by omega))).trans (((HBT.out.trans h).to_below (B := w.heap.size) (by have := B3.out.2; omega) (fun k hk q => by omega))))
      have KP : Hid (∀ w', But (fun k => k = wv.heap.size) wr w' → w'.rangeAt g (o + j * 32) pp) := Lib.hid (fun w' h => by rw [← hpp]; exact rangeAt_below (HBW.out w' h) rp gl')
      obtain ⟨vn, evn, Hvn, Zvn, Ivn, Ovn⟩ := row_of (nodeH p cur) (nodeH_length _ _)
      have HN : Hid (∀ w', But (fun k => k = wv.heap.size) wr w' → Calls Tryd.prog 30 #[.agg pp.toArray, .agg vc] w' fun ev w2 => ev = .returned (.agg vn) ∧ Below w'.heap.size w' w2) := Lib.hid (fun w' h => by
        have := hnode_any p cur w' pl HC.out.1 (ktab_below HK.out (HBW.out w' h) HK.out.lt)
        rw [evc, evn] at this
        rw [← hpp]; exact this)
      have HP2 := Lib.hid (And.intro hp (show j + 1 < ps.length by have := HL.out; omega))
      clear hp rp pl hpp evn evc gl' ej
      go_wp2_with fail
      refine wp_region_held_drew (S := But (fun k => k = wv.heap.size) wr) (by kernel_rfl) (But.refl _ _).drew (fun hHeld => ?_)
      refine wpAnyH_take (i := 0) (v := ?tv1) rfl (by kernel_rfl) (by kernel_rfl) (by kernel_rfl) (fun _ _ _ h => h) (Or.inl ⟨by rfl, ?ty1⟩) (by assumption) ?tr1
      case ty1 => (intro w hSw; (try dsimp only at hSw); go_simp; (try with_reducible rfl))
      try simp only [Act.put, List.getElem_toArray, List.getElem_cons_zero, List.setIfInBounds_toArray, List.set_cons_zero, List.set_cons_succ]
      refine wpAnyH_take (i := 1) (v := ?tv2) rfl (by kernel_rfl) (by kernel_rfl) (by kernel_rfl) (fun _ _ _ h => h) (Or.inl ⟨by rfl, ?ty2⟩) (by assumption) ?tr2
      case ty2 => (intro w hSw; (try dsimp only at hSw); go_simp; (try with_reducible rfl))
      try simp only [Act.put, List.getElem_toArray, List.getElem_cons_zero, List.getElem_cons_succ, List.setIfInBounds_toArray, List.set_cons_zero, List.set_cons_succ]
      refine wpAnyH_take (i := 2) (v := ?tv3) rfl (by kernel_rfl) (by kernel_rfl) (by kernel_rfl) (fun _ _ _ h => h) (Or.inl ⟨by rfl, ?ty3⟩) (by assumption) ?tr3
      case ty3 => (intro w hSw; (try dsimp only at hSw); go_simp; (try with_reducible rfl))
      try simp only [Act.put, List.getElem_toArray, List.getElem_cons_zero, List.getElem_cons_succ, List.setIfInBounds_toArray, List.set_cons_zero, List.set_cons_succ]
      refine wpAnyH_take (i := 3) (v := _) rfl (by kernel_rfl) (by kernel_rfl) (by kernel_rfl) (fun _ _ _ h => h) (yieldsIf_load_mid (by rfl) 26 _ (by rfl) g (o + j * 32) (by first | rfl | simp) pp _ (fun w h => KP.out w h) Tryd.underlying26 (by rfl) HIP.out) (by assumption) ?_
      try simp only [Act.put, List.getElem_toArray, List.getElem_cons_zero, List.getElem_cons_succ, List.setIfInBounds_toArray, List.set_cons_zero, List.set_cons_succ]
      refine wpAnyH_ready (rs := [4]) (by kernel_rfl) (by simp) ?_
      refine AllReadyH.cons (i := 4) rfl (fun K2 hK2 => ?_) AllReadyH.nil
      rw [if_pos (by rfl)]
      refine wp_load_row 26 _ rfl wv.heap.size rfl 26 vc (0, 0) _ KC.out Tryd.underlying26 rfl Ivc.out ?_
      refine hK2.out _ _ (show But (fun k => k = wv.heap.size) wr _ from (But.refl (fun k => k = wv.heap.size) wr).drew) (fun hHeld2 => ?_)
      clear hK2 K2
      try simp only [Act.put, List.getElem_toArray, List.getElem_cons_zero, List.getElem_cons_succ, List.setIfInBounds_toArray, List.set_cons_zero, List.set_cons_succ]
      refine wpAnyH_ready (rs := [5]) (by kernel_rfl) (by simp) ?_
      refine AllReadyH.cons (i := 5) rfl (fun K2 hK2 => ?_) AllReadyH.nil
      go_simp
      go_at_call 30
      refine (HN.out wr.drew (But.refl (fun k => k = wv.heap.size) wr).drew).mono ?_
      rintro ev w7 ⟨rfl, b7⟩
      try go_wp2_with fail
      refine hK2.out _ _ (show But (fun k => k = wv.heap.size) wr _ from ((But.refl (fun k => k = wv.heap.size) wr).drew.trans (but_below b7))) (fun hHeld2 => ?_)
      clear hK2 K2
      try simp only [Act.put, List.getElem_toArray, List.getElem_cons_zero, List.getElem_cons_succ, List.setIfInBounds_toArray, List.set_cons_zero, List.set_cons_succ]
      refine wpAnyH_ready (rs := [6]) (by kernel_rfl) (by simp) ?_
      refine AllReadyH.cons (i := 6) rfl (fun K2 hK2 => ?_) AllReadyH.nil
      rw [if_pos (by rfl)]
      refine wp_store_row 26 _ _ rfl wv.heap.size vn rfl rfl 26 _ ((b7.block _ hvr).trans KC.out) Ivn.out (by rw [Zvc.out, Zvn.out]) Ovn.out ?_
      refine hK2.out _ _ (show But (fun k => k = wv.heap.size) wr _ from (((But.refl (fun k => k = wv.heap.size) wr).drew.trans (but_below b7)).setRow wv.heap.size vn (fun _ => rfl))) (fun hHeld2 => ?_)
      clear hK2 K2
      try simp only [Act.put, List.getElem_toArray, List.getElem_cons_zero, List.getElem_cons_succ]
      refine wpAnyH_done (by kernel_rfl) ?_ _
      have hrw : (w7.setRow wv.heap.size vn).heap[wv.heap.size]? = some (.cells vn 26 (0, 0)) := setRow_heap _ _ _ _ _ _ ((b7.block _ hvr).trans KC.out)
      have HX9 : Hid (But (fun k => k = wv.heap.size) wr (w7.setRow wv.heap.size vn) ∧ (w7.setRow wv.heap.size vn).heap[wv.heap.size]? = some (.cells vn 26 (0, 0))) := Lib.hid ⟨hHeld2, hrw⟩
      clear hrw
      go_wp2
      go_roundw
      case rel => exact ⟨j, nodeH p cur, by omega, by go_num, Lib.hid ⟨nodeH_length _ _, by rw [foldR_drop HP2.out.1 HP2.out.2, HC.out.2]⟩, Lib.hid (by rw [show (bytesV (nodeH p cur)).toArray = vn from Hvn.out]; exact HX9.out.2), Lib.hid (HBT.out.trans HX9.out.1)⟩
      case measure => first | (simp [intOf]; done) | (simp [intOf]; omega)
    | zero =>
      have HFIN : Hid (cur = foldR nodeH zeroH ps) := Lib.hid (by have := HC.out.2; rwa [List.drop_zero] at this)
      have hsr : wv.heap.size < wr.heap.size := hvr
      have HBWr : Hid (Below w.heap.size w wr) := Lib.hid ((HB.out.trans (B3.out.1.mono (by omega))).trans (HBT.out.to_below (by have := B3.out.2; omega) (fun k hk q => by omega)))
      have R8r : Hid (wr.heap[w.heap.size]? = some (.cells (List.replicate 32 (Value.int .u8 0)).toArray 26 (0, 0))) := Lib.hid ((HBT.out.same _ (by have := B3.out.2; omega) (by omega)).trans ((B3.out.1.block _ (by omega)).trans R8.out))

      have HVC : Hid (hv (foldR nodeH zeroH ps) = .agg vc) := Lib.hid (by rw [← HFIN.out]; exact evc)
      clear evc
      go_wp2_with (first | (refine wpList_load_row rfl 26 _ rfl wv.heap.size rfl 26 vc (0, 0) _ KC.out Tryd.underlying26 rfl Ivc.out ?_) | (refine wpList_store_row rfl 26 _ _ rfl w.heap.size vc rfl rfl 26 _ R8r.out Ivc.out (by rw [Zvc.out]; simp) Ovc.out ?_))
      refine bodyPost_ret (v := .tuple #[.agg vc, .nilIface]) (results_row_tmp rfl _ _ w.heap.size 26 vc (0, 0) _ rfl (setRow_heap _ _ _ _ _ _ R8r.out) Tryd.underlying26 rfl Ivc.out .nilIface rfl) rfl ⟨by rw [HVC.out], below_setRow HBWr.out _ _ (Nat.le_refl _)⟩

set_option maxRecDepth 100000 in
set_option maxHeartbeats 4000000 in
theorem reffold_ok (ps : List (List UInt8)) (A : Option Addr) (n cap : Nat) (w : World) (hn : n ≤ 1000000000000) (hI : HIn w A n cap ps) (hne : ps ≠ []) :
    Calls Tryd.prog 10 #[.slice A n cap] w fun ev w' => ev = .returned (.tuple #[hv (foldR nodeH zeroH ps), faultV 0]) ∧ Below w.heap.size w w' := by
  have hlen := hI.2.1
  obtain ⟨m, rfl⟩ : ∃ m, n = m + 1 := ⟨n - 1, by have := List.length_pos_iff.2 hne; omega⟩
  have HI := Lib.hid hI
  have HL := Lib.hid hlen
  obtain ⟨x, hx⟩ : ∃ x, ps[m]? = some x := ⟨_, List.getElem?_eq_getElem (by omega)⟩
  obtain ⟨g, o, rfl, gl, rx, xl⟩ := hI.row hx
  obtain ⟨vx, evx, Hvx, Zvx, Ivx, Ovx⟩ := row_of x xl
  obtain ⟨px, hpx⟩ : ∃ q, bytesV x = q := ⟨_, rfl⟩
  have HXV : Hid (px.toArray = vx) := Lib.hid (by rw [← hpx]; exact Hvx.out)
  have HIX : Hid ((Tryd.prog.info? 26).map (·.size) = some px.length) := Lib.hid (by rw [← hpx, bytesV_length, xl]; kernel_rfl)
  have HXL := Lib.hid xl
  obtain ⟨vz, evz, Hvz, Zvz, Ivz, Ovz⟩ := row_of zeroH zeroH_length
  obtain ⟨wv, hwv⟩ : ∃ y, (w.alloc (.cells (List.replicate 32 (Value.int .u8 0)).toArray 26)).alloc (.cells #[.int .i64 0, .int .i64 0] 32) = y := ⟨_, rfl⟩
  have HB : Hid (Below w.heap.size w wv) := Lib.hid (by rw [← hwv]; exact ((Below.refl _ _).alloc (Nat.le_refl _) _).alloc (by simp) _)
  have hsz : w.heap.size + 2 = wv.heap.size := by rw [← hwv]; simp
  have R8 : Hid (wv.heap[w.heap.size]? = some (.cells (List.replicate 32 (Value.int .u8 0)).toArray 26 (0, 0))) := Lib.hid (by rw [← hwv, ((Below.refl _ _).alloc (Nat.le_refl _) _).block _ (by simp)]; exact heap_at _ _ _ rfl)
  have R9 : Hid (wv.heap[w.heap.size + 1]? = some (.cells #[.int .i64 0, .int .i64 0] 32 (0, 0))) := Lib.hid (by rw [← hwv]; exact heap_at _ _ _ (by simp))
  have HWV := Lib.hid hwv
  simp only [List.replicate, List.toArray] at HWV
  have HR : Hid (wv.rangeAt g (o + m * 32) px) := Lib.hid (by rw [← hpx]; exact rangeAt_below HB.out rx gl)
  have HHX := Lib.hid hx
  skip
  have m0 : (0 : Int) ≤ m := by omega
  have hm1 : ((m : Int) + 1 == 0) = false := by simp; omega
  have hm2 : ((m : Int) + 1 = 0) = False := by simp; omega
  have m1 : (m : Int) < ((m + 1 : Nat) : Int) := by omega
  clear hI hlen hx rx xl hpx evx evz hwv hne gl 
  go_enter Tryd.func10, Tryd.ntmps10
  go_upto_region 1 with fail
  rw [HWV.out]
  go_upto_region 4 with (first | (refine wpList_load_mid rfl 26 _ rfl g (o + m * 32) rfl px _ HR.out Tryd.underlying26 rfl HIX.out ?_; rw [HXV.out]) | (refine wpList_store_row_any rfl 26 _ _ rfl wv.heap.size vx rfl rfl 26 _ (heap_at _ _ _ rfl) Ivx.out (by rw [Zvx.out]; rfl) Ovx.out ?_; intro w3 hbN hgN hsN; have B3 : Hid (Below wv.heap.size wv w3 ∧ w3.heap.size = wv.heap.size + 1) := Lib.hid ⟨((Below.refl _ _).alloc (Nat.le_refl _) _).trans (hbN.to_below (by simp) (fun k hk q => by omega)), by rw [hsN]; simp⟩; have R13 := Lib.hid hgN; clear hbN hgN hsN))
  go_wp2_with fail
  go_loopw [5] (fun i wr => ∃ (k : Nat) (cur : List UInt8), k ≤ m ∧ i = .int .i64 ((k : Int) - 1) ∧ Hid (cur.length = 32 ∧ cur = foldR nodeH zeroH (ps.drop k)) ∧ Hid (wr.heap[wv.heap.size]? = some (.cells (bytesV cur).toArray 26 (0, 0))) ∧ Hid (But (fun k => k = wv.heap.size) w3 wr)) (fun i _ => (intOf i + 1).toNat)
  case atStart => exact ⟨m, x, Nat.le_refl _, by go_num, Lib.hid ⟨HXL.out, by rw [drop_last HL.out HHX.out]; rfl⟩, Lib.hid (by rw [show (bytesV x).toArray = vx from Hvx.out]; exact R13.out), Lib.hid (But.refl _ _)⟩
  case round =>
    obtain ⟨k, cur, hk, rfl, HC, KC, HBT⟩ := hrel
    obtain ⟨vc, evc, Hvc, Zvc, Ivc, Ovc⟩ := row_of cur HC.out.1
    rw [Hvc.out] at KC
    have hvr := (Array.getElem?_eq_some_iff.1 KC.out).1
    cases k with
    | succ j =>
      have ej : ((j + 1 : Nat) : Int) - 1 = (j : Int) := by omega
      rw [ej]
      have j0 : (0 : Int) ≤ j := by omega
      have j1 : (j : Int) < (m : Int) + 1 := by omega
      obtain ⟨p, hp⟩ : ∃ p, ps[j]? = some p := ⟨_, List.getElem?_eq_getElem (by have := HL.out; omega)⟩
      obtain ⟨g', o', hgo, gl', rp, pl⟩ := HI.out.row hp
      simp only [Option.some.injEq, Addr.mk.injEq, and_true] at hgo
      obtain ⟨rfl, rfl⟩ := hgo
      obtain ⟨pp, hpp⟩ : ∃ q, bytesV p = q := ⟨_, rfl⟩
      have HIP : Hid ((Tryd.prog.info? 26).map (·.size) = some pp.length) := Lib.hid (by rw [← hpp, bytesV_length, pl]; kernel_rfl)
      have HBW : Hid (∀ w', But (fun k => k = wv.heap.size) wr w' → Below w.heap.size w w') := Lib.hid (fun w' h => (HB.out.trans (B3.out.1.mono (by omega))).trans (((HBT.out.trans h).to_below (B := w.heap.size) (by have := B3.out.2; omega) (fun k hk q => by omega))))
      have KP : Hid (∀ w', But (fun k => k = wv.heap.size) wr w' → w'.rangeAt g (o + j * 32) pp) := Lib.hid (fun w' h => by rw [← hpp]; exact rangeAt_below (HBW.out w' h) rp gl')
      obtain ⟨vn, evn, Hvn, Zvn, Ivn, Ovn⟩ := row_of (nodeH p cur) (nodeH_length _ _)
      have HN : Hid (∀ w', But (fun k => k = wv.heap.size) wr w' → Calls Tryd.prog 32 #[.agg pp.toArray, .agg vc] w' fun ev w2 => ev = .returned (.agg vn) ∧ Below w'.heap.size w' w2) := Lib.hid (fun w' h => by
        have := refnode_any p cur w' pl HC.out.1
        rw [evc, evn] at this
        rw [← hpp]; exact this)
      have HP2 := Lib.hid (And.intro hp (show j + 1 < ps.length by have := HL.out; omega))
      clear hp rp pl hpp evn evc gl' ej
      go_wp2_with fail
      refine wp_region_held_drew (S := But (fun k => k = wv.heap.size) wr) (by kernel_rfl) (But.refl _ _).drew (fun hHeld => ?_)
      refine wpAnyH_take (i := 0) (v := ?tv5) rfl (by kernel_rfl) (by kernel_rfl) (by kernel_rfl) (fun _ _ _ h => h) (Or.inl ⟨by rfl, ?ty5⟩) (by assumption) ?tr5
      case ty5 => (intro w hSw; (try dsimp only at hSw); go_simp; (try with_reducible rfl))
      try simp only [Act.put, List.getElem_toArray, List.getElem_cons_zero, List.setIfInBounds_toArray, List.set_cons_zero, List.set_cons_succ]
      refine wpAnyH_take (i := 1) (v := ?tv6) rfl (by kernel_rfl) (by kernel_rfl) (by kernel_rfl) (fun _ _ _ h => h) (Or.inl ⟨by rfl, ?ty6⟩) (by assumption) ?tr6
      case ty6 => (intro w hSw; (try dsimp only at hSw); go_simp; (try with_reducible rfl))
      try simp only [Act.put, List.getElem_toArray, List.getElem_cons_zero, List.getElem_cons_succ, List.setIfInBounds_toArray, List.set_cons_zero, List.set_cons_succ]
      refine wpAnyH_take (i := 2) (v := ?tv7) rfl (by kernel_rfl) (by kernel_rfl) (by kernel_rfl) (fun _ _ _ h => h) (Or.inl ⟨by rfl, ?ty7⟩) (by assumption) ?tr7
      case ty7 => (intro w hSw; (try dsimp only at hSw); go_simp; (try with_reducible rfl))
      try simp only [Act.put, List.getElem_toArray, List.getElem_cons_zero, List.getElem_cons_succ, List.setIfInBounds_toArray, List.set_cons_zero, List.set_cons_succ]
      refine wpAnyH_take (i := 3) (v := _) rfl (by kernel_rfl) (by kernel_rfl) (by kernel_rfl) (fun _ _ _ h => h) (yieldsIf_load_mid (by rfl) 26 _ (by rfl) g (o + j * 32) (by first | rfl | simp) pp _ (fun w h => KP.out w h) Tryd.underlying26 (by rfl) HIP.out) (by assumption) ?_
      try simp only [Act.put, List.getElem_toArray, List.getElem_cons_zero, List.getElem_cons_succ, List.setIfInBounds_toArray, List.set_cons_zero, List.set_cons_succ]
      refine wpAnyH_ready (rs := [4]) (by kernel_rfl) (by simp) ?_
      refine AllReadyH.cons (i := 4) rfl (fun K2 hK2 => ?_) AllReadyH.nil
      rw [if_pos (by rfl)]
      refine wp_load_row 26 _ rfl wv.heap.size rfl 26 vc (0, 0) _ KC.out Tryd.underlying26 rfl Ivc.out ?_
      refine hK2.out _ _ (show But (fun k => k = wv.heap.size) wr _ from (But.refl (fun k => k = wv.heap.size) wr).drew) (fun hHeld2 => ?_)
      clear hK2 K2
      try simp only [Act.put, List.getElem_toArray, List.getElem_cons_zero, List.getElem_cons_succ, List.setIfInBounds_toArray, List.set_cons_zero, List.set_cons_succ]
      refine wpAnyH_ready (rs := [5]) (by kernel_rfl) (by simp) ?_
      refine AllReadyH.cons (i := 5) rfl (fun K2 hK2 => ?_) AllReadyH.nil
      go_simp
      go_at_call 32
      refine (HN.out wr.drew (But.refl (fun k => k = wv.heap.size) wr).drew).mono ?_
      rintro ev w7 ⟨rfl, b7⟩
      try go_wp2_with fail
      refine hK2.out _ _ (show But (fun k => k = wv.heap.size) wr _ from ((But.refl (fun k => k = wv.heap.size) wr).drew.trans (but_below b7))) (fun hHeld2 => ?_)
      clear hK2 K2
      try simp only [Act.put, List.getElem_toArray, List.getElem_cons_zero, List.getElem_cons_succ, List.setIfInBounds_toArray, List.set_cons_zero, List.set_cons_succ]
      refine wpAnyH_ready (rs := [6]) (by kernel_rfl) (by simp) ?_
      refine AllReadyH.cons (i := 6) rfl (fun K2 hK2 => ?_) AllReadyH.nil
      rw [if_pos (by rfl)]
      refine wp_store_row 26 _ _ rfl wv.heap.size vn rfl rfl 26 _ ((b7.block _ hvr).trans KC.out) Ivn.out (by rw [Zvc.out, Zvn.out]) Ovn.out ?_
      refine hK2.out _ _ (show But (fun k => k = wv.heap.size) wr _ from (((But.refl (fun k => k = wv.heap.size) wr).drew.trans (but_below b7)).setRow wv.heap.size vn (fun _ => rfl))) (fun hHeld2 => ?_)
      clear hK2 K2
      try simp only [Act.put, List.getElem_toArray, List.getElem_cons_zero, List.getElem_cons_succ]
      refine wpAnyH_done (by kernel_rfl) ?_ _
      have hrw : (w7.setRow wv.heap.size vn).heap[wv.heap.size]? = some (.cells vn 26 (0, 0)) := setRow_heap _ _ _ _ _ _ ((b7.block _ hvr).trans KC.out)
      have HX9 : Hid (But (fun k => k = wv.heap.size) wr (w7.setRow wv.heap.size vn) ∧ (w7.setRow wv.heap.size vn).heap[wv.heap.size]? = some (.cells vn 26 (0, 0))) := Lib.hid ⟨hHeld2, hrw⟩
      clear hrw
      go_wp2
      go_roundw
      case rel => exact ⟨j, nodeH p cur, by omega, by go_num, Lib.hid ⟨nodeH_length _ _, by rw [foldR_drop HP2.out.1 HP2.out.2, HC.out.2]⟩, Lib.hid (by rw [show (bytesV (nodeH p cur)).toArray = vn from Hvn.out]; exact HX9.out.2), Lib.hid (HBT.out.trans HX9.out.1)⟩
      case measure => first | (simp [intOf]; done) | (simp [intOf]; omega)
    | zero =>
      have HFIN : Hid (cur = foldR nodeH zeroH ps) := Lib.hid (by have := HC.out.2; rwa [List.drop_zero] at this)
      have hsr : wv.heap.size < wr.heap.size := hvr
      have HBWr : Hid (Below w.heap.size w wr) := Lib.hid ((HB.out.trans (B3.out.1.mono (by omega))).trans (HBT.out.to_below (by have := B3.out.2; omega) (fun k hk q => by omega)))
      have R8r : Hid (wr.heap[w.heap.size]? = some (.cells (List.replicate 32 (Value.int .u8 0)).toArray 26 (0, 0))) := Lib.hid ((HBT.out.same _ (by have := B3.out.2; omega) (by omega)).trans ((B3.out.1.block _ (by omega)).trans R8.out))
      have R9r : Hid (wr.heap[w.heap.size + 1]? = some (.cells #[.int .i64 0, .int .i64 0] 32 (0, 0))) := Lib.hid ((HBT.out.same _ (by have := B3.out.2; omega) (by omega)).trans ((B3.out.1.block _ (by omega)).trans R9.out))
      have HVC : Hid (hv (foldR nodeH zeroH ps) = .agg vc) := Lib.hid (by rw [← HFIN.out]; exact evc)
      clear evc
      obtain ⟨vf, evf, HVF, Zvf, Ivf, Ovf⟩ := fault_of 0
      have R9s : Hid ((wr.setRow w.heap.size vc).heap[w.heap.size + 1]? = some (.cells #[.int .i64 0, .int .i64 0] 32 (0, 0))) := Lib.hid ((setRow_other _ _ _ _ (by omega)).trans R9r.out)
      have HVF2 : Hid (vf = #[.int .i64 0, .int .i64 0]) := Lib.hid HVF.out
      have HEF := Lib.hid evf
      clear evf
      go_wp2_with (first | (refine wpList_load_row rfl 26 _ rfl wv.heap.size rfl 26 vc (0, 0) _ KC.out Tryd.underlying26 rfl Ivc.out ?_) | (refine wpList_store_row rfl 26 _ _ rfl w.heap.size vc rfl rfl 26 _ R8r.out Ivc.out (by rw [Zvc.out]; simp) Ovc.out ?_) | (refine wpList_store_row rfl 32 _ _ rfl (w.heap.size + 1) vf rfl (by rw [HVF2.out]; rfl) 32 _ R9s.out Ivf.out (by rw [Zvf.out]; rfl) Ovf.out ?_))
      refine bodyPost_ret (v := .tuple #[.agg vc, .agg vf]) (results_row_row rfl _ _ w.heap.size (w.heap.size + 1) 26 32 vc vf (0, 0) (0, 0) _ _ rfl ((setRow_other _ _ _ _ (by omega)).trans (setRow_heap _ _ _ _ _ _ R8r.out)) rfl (setRow_heap _ _ _ _ _ _ R9s.out) Tryd.underlying26 rfl Ivc.out Tryd.underlying32 rfl Ivf.out) rfl ⟨by rw [HVC.out, HEF.out], below_setRow (below_setRow HBWr.out _ _ (Nat.le_refl _)) _ _ (by omega)⟩

set_option maxRecDepth 100000 in
set_option maxHeartbeats 4000000 in
theorem fold_nil (a : Nat → Addr) (B cap : Nat) (A : Option Addr) (w : World) (hE : Laid B a w) : Calls Tryd.prog 9 #[.slice A 0 cap] w fun ev w' => ev = .returned (.tuple #[hv zeroH, errV a 2]) ∧ Below w.heap.size w w' := by
  obtain ⟨zv, ez, RZ, HZS, HZI, HZO⟩ := row_of zeroH zeroH_length
  have HZV : Hid (zv = #[.int .u8 0, .int .u8 0, .int .u8 0, .int .u8 0, .int .u8 0, .int .u8 0, .int .u8 0, .int .u8 0, .int .u8 0, .int .u8 0, .int .u8 0, .int .u8 0, .int .u8 0, .int .u8 0, .int .u8 0, .int .u8 0, .int .u8 0, .int .u8 0, .int .u8 0, .int .u8 0, .int .u8 0, .int .u8 0, .int .u8 0, .int .u8 0, .int .u8 0, .int .u8 0, .int .u8 0, .int .u8 0, .int .u8 0, .int .u8 0, .int .u8 0, .int .u8 0]) := Lib.hid (by rw [zeroH_v] at ez; cases ez; rfl)
  rw [ez]
  obtain ⟨wv, hwv⟩ : ∃ y, w.alloc (.cells (List.replicate 32 (Value.int .u8 0)).toArray 26) = y := ⟨_, rfl⟩
  have HBv : Hid (Below w.heap.size w wv) := Lib.hid (by rw [← hwv]; exact (Below.refl _ _).alloc (Nat.le_refl _) _)
  have bv : Gr w wv := HBv.out
  have HRv : Hid (wv.heap[w.heap.size]? = some (.cells (List.replicate 32 (Value.int .u8 0)).toArray 26 (0, 0))) := Lib.hid (by rw [← hwv]; exact heap_at _ _ _ rfl)
  have HWV := Lib.hid hwv
  simp only [List.replicate, List.toArray] at HWV
  have HE := Lib.hid hE
  have hg5 := block_of_cell hE.e2
  have hg6 : 0 < wv.heap.size := by have := HBv.out.size; omega
  clear ez hwv hE
  unfold errV
  go_enter Tryd.func9, Tryd.ntmps9
  go_upto_region 1 with fail
  rw [HWV.out]
  go_wp2_with fail
  refine wp_region_held_drew (S := Gr w) (by kernel_rfl) (Gr.drew bv) (fun hHeld => ?_)
  refine wpAnyH_take (i := 0) (v := _) rfl (by kernel_rfl) (by kernel_rfl) (by kernel_rfl) (fun _ _ _ h => h) (show YieldsIf _ _ _ _ (.agg zv) _ from .inl ⟨by rfl, fun w h => by rw [HZV.out]; kernel_rfl⟩) (by assumption) ?_
  try simp only [Act.put, List.getElem_toArray, List.getElem_cons_zero, List.setIfInBounds_toArray, List.set_cons_zero, List.set_cons_succ]
  refine wpAnyH_take (i := 1) (v := ?tv10) rfl (by kernel_rfl) (by kernel_rfl) (by kernel_rfl) (fun _ _ _ h => h) (Or.inl ⟨by rfl, ?ty10⟩) (by assumption) ?tr10
  case ty10 => (intro w hSw; (try dsimp only at hSw); have q9 := cell_below hSw HE.out.e2 (block_of_cell HE.out.e2); go_simp; (try with_reducible rfl))
  try simp only [Act.put, List.getElem_toArray, List.getElem_cons_zero, List.getElem_cons_succ, List.setIfInBounds_toArray, List.set_cons_zero, List.set_cons_succ]
  refine wpAnyH_ready (rs := [2]) (by kernel_rfl) (by simp) ?_
  refine AllReadyH.cons (i := 2) rfl (fun K2 hK2 => ?_) AllReadyH.nil
  rw [if_pos (by rfl)]
  refine wp_store_row 26 _ _ rfl w.heap.size zv rfl rfl 26 _ HRv.out HZI.out (by rw [HZS.out]; simp) HZO.out ?_
  refine hK2.out _ _ (show Gr w _ from below_setRow (show Gr w wv.drew from (by repeat (first | exact Gr.refl _ | (refine Gr.step ?_ (by assumption)) | (refine Gr.alloc ?_ _) | (refine Gr.drew ?_)))) _ _ (Nat.le_refl _)) (fun hHeld2 => ?_)
  clear hK2 K2
  try simp only [Act.put, List.getElem_toArray, List.getElem_cons_zero, List.getElem_cons_succ]
  refine wpAnyH_take (i := 3) (v := ?tv11) rfl (by kernel_rfl) (by kernel_rfl) (by kernel_rfl) (fun _ _ _ h => h) (Or.inl ⟨by rfl, ?ty11⟩) (by assumption) ?tr11
  case ty11 => (intro w hSw; (try dsimp only at hSw); go_simp; (try with_reducible rfl))
  try simp only [Act.put, List.getElem_toArray, List.getElem_cons_zero, List.getElem_cons_succ, List.setIfInBounds_toArray, List.set_cons_zero, List.set_cons_succ]
  refine wpAnyH_done (by kernel_rfl) ?_ _
  go_wp2
  refine bodyPost_ret (v := .tuple #[.agg zv, errV a 2]) (results_row_tmp rfl _ _ w.heap.size 26 zv (0, 0) _ rfl (setRow_heap wv.drew _ _ _ _ _ HRv.out) Tryd.underlying26 rfl HZI.out _ rfl) rfl ⟨rfl, hHeld2⟩

set_option maxRecDepth 100000 in
set_option maxHeartbeats 4000000 in
theorem reffold_nil (cap : Nat) (A : Option Addr) (w : World) : Calls Tryd.prog 10 #[.slice A 0 cap] w fun ev w' => ev = .returned (.tuple #[hv zeroH, faultV 2]) ∧ Below w.heap.size w w' := by
  obtain ⟨zv, ez, RZ, HZS, HZI, HZO⟩ := row_of zeroH zeroH_length
  have HZV : Hid (zv = #[.int .u8 0, .int .u8 0, .int .u8 0, .int .u8 0, .int .u8 0, .int .u8 0, .int .u8 0, .int .u8 0, .int .u8 0, .int .u8 0, .int .u8 0, .int .u8 0, .int .u8 0, .int .u8 0, .int .u8 0, .int .u8 0, .int .u8 0, .int .u8 0, .int .u8 0, .int .u8 0, .int .u8 0, .int .u8 0, .int .u8 0, .int .u8 0, .int .u8 0, .int .u8 0, .int .u8 0, .int .u8 0, .int .u8 0, .int .u8 0, .int .u8 0, .int .u8 0]) := Lib.hid (by rw [zeroH_v] at ez; cases ez; rfl)
  obtain ⟨vf, evf, HVF, Zvf, Ivf, Ovf⟩ := fault_of 2
  rw [ez, evf]
  obtain ⟨wv, hwv⟩ : ∃ y, (w.alloc (.cells (List.replicate 32 (Value.int .u8 0)).toArray 26)).alloc (.cells #[.int .i64 0, .int .i64 0] 32) = y := ⟨_, rfl⟩
  have HBv : Hid (Below w.heap.size w wv) := Lib.hid (by rw [← hwv]; exact ((Below.refl _ _).alloc (Nat.le_refl _) _).alloc (by simp) _)
  have HRv : Hid (wv.heap[w.heap.size]? = some (.cells (List.replicate 32 (Value.int .u8 0)).toArray 26 (0, 0))) := Lib.hid (by rw [← hwv, ((Below.refl _ _).alloc (Nat.le_refl _) _).block _ (by simp)]; exact heap_at _ _ _ rfl)
  have HR9 : Hid (wv.heap[w.heap.size + 1]? = some (.cells #[.int .i64 0, .int .i64 0] 32 (0, 0))) := Lib.hid (by rw [← hwv]; exact heap_at _ _ _ (by simp))
  have hsv : w.heap.size + 2 = wv.heap.size := by rw [← hwv]; simp
  have HWV := Lib.hid hwv
  simp only [List.replicate, List.toArray] at HWV
  have HP : Hid (Calls Tryd.prog 31 #[.int .i64 2] wv fun ev w' => ev = .returned (.agg vf) ∧ Below wv.heap.size wv w') := Lib.hid (by rw [← evf]; exact plain2 wv)
  clear ez hwv evf
  go_enter Tryd.func10, Tryd.ntmps10
  go_upto_region 1 with fail
  rw [HWV.out]
  go_wp2_with fail
  refine HP.out.mono ?_
  rintro ev w1 ⟨rfl, b1⟩
  have R8 : Hid (w1.heap[w.heap.size]? = some (.cells (List.replicate 32 (Value.int .u8 0)).toArray 26 (0, 0))) := Lib.hid ((b1.block _ (by omega)).trans HRv.out)
  have R9 : Hid ((w1.setRow w.heap.size zv).heap[w.heap.size + 1]? = some (.cells #[.int .i64 0, .int .i64 0] 32 (0, 0))) := Lib.hid ((setRow_other _ _ _ _ (by omega)).trans ((b1.block _ (by omega)).trans HR9.out))
  have HB1 : Hid (Below w.heap.size w w1) := Lib.hid (HBv.out.trans (b1.mono (by omega)))
  clear b1
  go_wp2_with (first | (refine wpList_store_row rfl 26 _ _ rfl w.heap.size zv rfl (by rw [HZV.out]; rfl) 26 _ R8.out HZI.out (by rw [HZS.out]; simp) HZO.out ?_) | (refine wpList_store_row rfl 32 _ _ rfl (w.heap.size + 1) vf rfl rfl 32 _ R9.out Ivf.out (by rw [Zvf.out]; rfl) Ovf.out ?_))
  refine bodyPost_ret (v := .tuple #[.agg zv, .agg vf]) (results_row_row rfl _ _ w.heap.size (w.heap.size + 1) 26 32 zv vf (0, 0) (0, 0) _ _ rfl ((setRow_other _ _ _ _ (by omega)).trans (setRow_heap _ _ _ _ _ _ R8.out)) rfl (setRow_heap _ _ _ _ _ _ R9.out) Tryd.underlying26 rfl HZI.out Tryd.underlying32 rfl Ivf.out) rfl ⟨rfl, below_setRow (below_setRow HB1.out _ _ (Nat.le_refl _)) _ _ (by omega)⟩

end Go.Proofs.YtdodfeoaioolnaaDoor
