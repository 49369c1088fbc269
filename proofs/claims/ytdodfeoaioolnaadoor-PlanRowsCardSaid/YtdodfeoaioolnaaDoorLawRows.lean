/- The law PlanRows: the parts' trees are the covers of chapter 7's stretches. Condition: the package-level variables read as listed. -/
import Derived.Test.YtdodfeoaioolnaaDoorPlanAlive
namespace Go.Proofs.YtdodfeoaioolnaaDoor
open Go.ChangeShapes Go.WideShapes Go.ChangeAt Go.RowKit
set_option linter.unusedVariables false
/-- stretches, or a refusal -/
def AnsS (a : Nat → Addr) (w : World) (v e : Value) : Option (List (Int × Int)) → Prop
  | none => v = .slice none 0 0 ∧ e = errV a 5
  | some l => e = .nilIface ∧ Rd w v 2 l.length (spanCells l)
/-- parts, or a refusal -/
def AnsP (a : Nat → Addr) (w : World) (v e : Value) : Option (List (Int × Int)) → Prop
  | none => v = .slice none 0 0 ∧ e = errV a 5
  | some l => e = .nilIface ∧ PRd w v (l.map coverS)
theorem AnsS.below {a : Nat → Addr} {w w' : World} {v e : Value} {o : Option (List (Int × Int))} (h : AnsS a w v e o) (hb : Below w.heap.size w w') : AnsS a w' v e o := by
  cases o with
  | none => exact h
  | some l => exact ⟨h.1, h.2.below hb⟩
theorem AnsP.below {a : Nat → Addr} {w w' : World} {v e : Value} {o : Option (List (Int × Int))} (h : AnsP a w v e o) (hb : Below w.heap.size w w') : AnsP a w' v e o := by
  cases o with
  | none => exact h
  | some l => exact ⟨h.1, h.2.below hb⟩
def PostS (a : Nat → Addr) (w : World) (o : Option (List (Int × Int))) (ev : Ending) (w' : World) : Prop := ∃ v e, ev = .returned (.tuple #[v, e]) ∧ AnsS a w' v e o ∧ Below w.heap.size w w'
def PostP (a : Nat → Addr) (w : World) (o : Option (List (Int × Int))) (ev : Ending) (w' : World) : Prop := ∃ v e, ev = .returned (.tuple #[v, e]) ∧ AnsP a w' v e o ∧ Below w.heap.size w w'
theorem postS_ok {a : Nat → Addr} {w : World} {l : List (Int × Int)} {ev : Ending} {w' : World} (h : ListPost 93 2 w l.length (spanCells l) ev w') : PostS a w (some l) ev w' := by
  obtain ⟨v, h1, h2, h3⟩ := h
  exact ⟨v, _, h1, ⟨rfl, rd_own h2⟩, h3⟩
theorem postP_ok {a : Nat → Addr} {w : World} {l : List (Int × Int)} {ev : Ending} {w' : World} (h : PartsPost w (l.map coverS) ev w') : PostP a w (some l) ev w' := by
  obtain ⟨v, vs, h1, h2, h3, h4, h5⟩ := h
  exact ⟨v, _, h1, ⟨rfl, prd_hold h2 h3 rfl⟩, h5⟩
theorem postS_bad {a : Nat → Addr} {w : World} {ev : Ending} {w' : World} (h : FailPost (errV a 5) w ev w') : PostS a w none ev w' := ⟨_, _, h.1, ⟨rfl, rfl⟩, h.2⟩
theorem postP_bad {a : Nat → Addr} {w : World} {ev : Ending} {w' : World} (h : FailPost (errV a 5) w ev w') : PostP a w none ev w' := ⟨_, _, h.1, ⟨rfl, rfl⟩, h.2⟩

open Classical in
/-- what is asked of path: stretches, or a refusal -/
theorem ask_path (a : Nat → Addr) (B : Nat) (ix sz : Int) (b0 : 0 ≤ ix) (b1 : ix < 18446744073709551616) (b2 : 0 ≤ sz) (b3 : sz < 18446744073709551616) : ∃ o : Option (List (Int × Int)), (∀ l, o = some l → SpansOk l ∧ l.length ≤ 1000 ∧ l = pathL 64 ix 0 sz ∧ ¬ (9223372036854775808 < sz ∨ sz ≤ ix)) ∧ (o = none → (9223372036854775808 < sz ∨ sz ≤ ix)) ∧
    (∀ w, EnvP B a w → Calls Tryd.prog 17 #[.int .u64 ix, .int .u64 sz] w (PostS a w o)) ∧ (∀ w, EnvP B a w → Calls Tryd.prog 14 #[.int .u64 ix, .int .u64 sz] w (PostP a w o)) := by
  by_cases h : 9223372036854775808 < sz ∨ sz ≤ ix
  · exact ⟨none, fun l hl => (by cases hl), fun _ => h, fun w hE => (path_fail a B ix sz w hE.laid b0 b1 b2 b3 h).mono fun ev w' q => postS_bad q, fun w hE => (plan_path_fail a B ix sz w hE.laid b0 b1 b2 b3 h).mono fun ev w' q => postP_bad q⟩
  · refine ⟨some (pathL 64 ix 0 sz), fun l hl => ?_, fun q => (by cases q), fun w hE => (path_ok ix sz w (by omega) (by omega) (by omega)).mono fun ev w' q => postS_ok q, fun w hE => (plan_path_ok ix sz w hE.tz hE.lo (by omega) (by omega) (by omega)).mono fun ev w' q => postP_ok q⟩
    cases hl
    exact ⟨spans_ok (path_spansIn ix sz (by omega) (by omega) (by omega)) (by omega), by have := pathL_len 64 ix 0 sz; omega, rfl, h⟩
open Classical in
/-- what is asked of proof: stretches, or a refusal -/
theorem ask_proof (a : Nat → Addr) (B : Nat) (ix sz : Int) (b0 : 0 ≤ ix) (b1 : ix < 18446744073709551616) (b2 : 0 ≤ sz) (b3 : sz < 18446744073709551616) : ∃ o : Option (List (Int × Int)), (∀ l, o = some l → SpansOk l ∧ l.length ≤ 1000 ∧ l = proofL 64 ix 0 sz ∧ ¬ (9223372036854775808 < sz ∨ ix = 0 ∨ sz < ix)) ∧ (o = none → (9223372036854775808 < sz ∨ ix = 0 ∨ sz < ix)) ∧
    (∀ w, EnvP B a w → Calls Tryd.prog 19 #[.int .u64 ix, .int .u64 sz] w (PostS a w o)) ∧ (∀ w, EnvP B a w → Calls Tryd.prog 16 #[.int .u64 ix, .int .u64 sz] w (PostP a w o)) := by
  by_cases h : 9223372036854775808 < sz ∨ ix = 0 ∨ sz < ix
  · exact ⟨none, fun l hl => (by cases hl), fun _ => h, fun w hE => (proof_fail a B ix sz w hE.laid b0 b1 b2 b3 h).mono fun ev w' q => postS_bad q, fun w hE => (plan_proof_fail a B ix sz w hE.laid b0 b1 b2 b3 h).mono fun ev w' q => postP_bad q⟩
  · refine ⟨some (proofL 64 ix 0 sz), fun l hl => ?_, fun q => (by cases q), fun w hE => (proof_ok ix sz w (by omega) (by omega) (by omega)).mono fun ev w' q => postS_ok q, fun w hE => (plan_proof_ok ix sz w hE.tz hE.lo (by omega) (by omega) (by omega)).mono fun ev w' q => postP_ok q⟩
    cases hl
    exact ⟨spans_ok (proof_spansIn ix sz (by omega) (by omega) (by omega)) (by omega), by have := proofL_len 64 ix 0 sz; omega, rfl, h⟩
open Classical in
/-- what is asked of batch: stretches, or a refusal -/
theorem ask_batch (a : Nat → Addr) (B : Nat) (x y sz : Int) (b0 : 0 ≤ x) (b1 : x < 18446744073709551616) (b2 : 0 ≤ y) (b3 : y < 18446744073709551616) (b4 : 0 ≤ sz) (b5 : sz < 18446744073709551616) : ∃ o : Option (List (Int × Int)), (∀ l, o = some l → SpansOk l ∧ l.length ≤ 1000 ∧ l = batchL 64 x y 0 sz ∧ ¬ (9223372036854775808 < sz ∨ sz < y ∨ y ≤ x)) ∧ (o = none → (9223372036854775808 < sz ∨ sz < y ∨ y ≤ x)) ∧
    (∀ w, EnvP B a w → Calls Tryd.prog 20 #[.int .u64 x, .int .u64 y, .int .u64 sz] w (PostS a w o)) ∧ (∀ w, EnvP B a w → Calls Tryd.prog 21 #[.int .u64 x, .int .u64 y, .int .u64 sz] w (PostP a w o)) := by
  by_cases h : 9223372036854775808 < sz ∨ sz < y ∨ y ≤ x
  · exact ⟨none, fun l hl => (by cases hl), fun _ => h, fun w hE => (batch_fail a B x y sz w hE.laid b0 b1 b2 b3 b4 b5 h).mono fun ev w' q => postS_bad q, fun w hE => (plan_batch_fail a B x y sz w hE.laid b0 b1 b2 b3 b4 b5 h).mono fun ev w' q => postP_bad q⟩
  · refine ⟨some (batchL 64 x y 0 sz), fun l hl => ?_, fun q => (by cases q), fun w hE => (batch_ok x y sz w (by omega) (by omega) (by omega) (by omega)).mono fun ev w' q => postS_ok q, fun w hE => (plan_batch_ok x y sz w hE.tz hE.lo (by omega) (by omega) (by omega) (by omega)).mono fun ev w' q => postP_ok q⟩
    cases hl
    exact ⟨spans_ok (batch_spansIn x y sz (by omega) (by omega) (by omega) (by omega)) (by omega), by have := batchL_len 64 x y 0 sz (by omega) (by rw [pow2_64]; omega); omega, rfl, h⟩
set_option maxRecDepth 100000 in
set_option maxHeartbeats 4000000 in
theorem covers_any (a : Nat → Addr) (B : Nat) (o : Option (List (Int × Int))) (v e v2 e2 : Value) (w : World) (hE : EnvP B a w) (ho : ∀ l, o = some l → SpansOk l ∧ l.length ≤ 1000) (hS : AnsS a w v e o) (hP : AnsP a w v2 e2 o) :
    Calls Tryd.prog 18 #[v, e, v2, e2] w fun ev w' => ev = .returned (.bool true) ∧ Below w.heap.size w w' := by
  have HE := Lib.hid hE
  clear hE
  cases o with
  | none =>
    obtain ⟨rfl, rfl⟩ := hS
    obtain ⟨rfl, rfl⟩ := hP
    have HI : Hid (∀ w, EnvP B a w → Calls Tryd.prog 33 #[errV a 5, .int .i64 5] w fun ev w' => ev = .returned (.bool true) ∧ Below w.heap.size w w') := Lib.hid (fun w h => is_sent a B 5 w h.laid (by omega) (by omega))
    unfold errV at HI ⊢
    go_enter Tryd.func18, Tryd.ntmps18
    go_wp2_with fail
    refine (HI.out w HE.out).mono ?_
    rintro ev w1 ⟨rfl, b1⟩
    go_wp2_with fail
    refine (HI.out w1 (show EnvP B a w1 from HE.out.step (show Gr w w1 from (by repeat (first | exact Gr.refl _ | (refine Gr.step ?_ (by assumption)) | (refine Gr.alloc ?_ _) | (refine Gr.drew ?_)))))).mono ?_
    rintro ev w2 ⟨rfl, b2⟩
    go_wp2
    go_ret
    exact ⟨rfl, show Gr w _ from (by repeat (first | exact Gr.refl _ | (refine Gr.step ?_ (by assumption)) | (refine Gr.alloc ?_ _) | (refine Gr.drew ?_)))⟩
  | some l =>
    obtain ⟨hso, hll⟩ := ho l rfl
    obtain ⟨rfl, _, A1, c1, rfl, hc1⟩ := hS
    obtain ⟨rfl, vs, ⟨_, A2, c2, rfl, hc2⟩, hq⟩ := hP
    rw [List.length_map] at hc2 ⊢
    obtain ⟨n, hn⟩ : ∃ n, l.length = n := ⟨_, rfl⟩
    rw [hn] at hc1 hc2 hll ⊢
    have HN := Lib.hid hn
    have H1 := Lib.hid hc1
    have H2 := Lib.hid hc2
    have HQ := Lib.hid hq
    have HSO := Lib.hid hso
    clear hn hc1 hc2 hq hso
    go_enter Tryd.func18, Tryd.ntmps18
    go_wp2
    go_loopw [9] (fun i wr => ∃ k : Nat, k ≤ n ∧ i = .int .i64 k ∧ Hid (Below w.heap.size w wr)) (fun i _ => n - (intOf i).toNat)
    case atStart => exact ⟨0, Nat.zero_le _, rfl, Lib.hid (Below.refl _ _)⟩
    case round =>
      obtain ⟨k, hk, rfl, HB⟩ := hrel
      by_cases hlt : k < n
      · obtain ⟨g1, rfl, hc1⟩ : ∃ g, A1 = some ⟨g, 0, none⟩ ∧ ∀ j u, (spanCells l)[j]? = some u → w.cell? ⟨g, j, none⟩ = some u := by
          rcases H1.out with q | q
          · omega
          · exact q
        obtain ⟨g2, rfl, hc2⟩ : ∃ g, A2 = some ⟨g, 0, none⟩ ∧ ∀ j u, vs[j]? = some u → w.cell? ⟨g, j, none⟩ = some u := by
          rcases H2.out with q | q
          · omega
          · exact q
        obtain ⟨p, hp⟩ : ∃ p, l[k]? = some p := ⟨_, List.getElem?_eq_getElem (by have := HN.out; omega)⟩
        have hat := spanCells_at l k p hp
        have a0 := cell_below HB.out (hc1 _ _ hat.1) (block_of_cell (hc1 _ _ hat.1))
        have a1 := cell_below HB.out (hc1 _ _ hat.2) (block_of_cell (hc1 _ _ hat.2))
        obtain ⟨u, hu, ru⟩ := HQ.out k (coverS p) (by rw [List.getElem?_map, hp]; rfl)
        have HU := Lib.hid (And.intro (hc2 k u hu) ru)
        have hpk := HSO.out p (List.mem_of_getElem? hp)
        obtain ⟨x, hx⟩ : ∃ x, p.1 = x := ⟨_, rfl⟩
        obtain ⟨y, hy⟩ : ∃ y, p.2 = y := ⟨_, rfl⟩
        have HXY : Hid (coverL 128 x.toNat y.toNat = coverS p) := Lib.hid (by rw [← hx, ← hy]; rfl)
        rw [hx] at a0 hpk
        rw [hy] at a1 hpk
        have i0 : (0 : Int) ≤ k := by omega
        have i1 : (k : Int) < n := by omega
        have HEr : Hid (EnvP B a wr) := Lib.hid (HE.out.step HB.out)
        clear hat hc1 hc2 hu ru hp hx hy
        go_wp2_with fail
        refine (cover_ok x y wr HEr.out.tz HEr.out.lo hpk.1 hpk.2.1 hpk.2.2).mono ?_
        rintro ev w1 ⟨v1, rfl, o1, b1⟩
        rw [HXY.out] at o1
        have HB1 : Hid (Below w.heap.size w w1) := Lib.hid (HB.out.trans (b1.mono HB.out.size))
        have HO1 := Lib.hid (rd_own o1)
        have cu := cell_below HB1.out HU.out.1 (block_of_cell HU.out.1)
        have hcl := coverL_len 128 x.toNat y.toNat
        rw [HXY.out] at hcl
        have HCL := Lib.hid hcl
        clear b1 o1 hcl
        go_wp2_with fail
        refine (same_coords (coverS p) v1 u w1 (by have := HCL.out; omega) HO1.out (HU.out.2.below HB1.out)).mono ?_
        rintro ev w2 ⟨rfl, b2⟩
        have HB2 : Hid (Below w.heap.size w w2) := Lib.hid (HB1.out.trans (b2.mono HB1.out.size))
        clear b2
        go_wp2
        go_roundw
        case rel => exact ⟨k + 1, by omega, by go_num, HB2⟩
        case measure => simp [intOf]; omega
      · go_wp2
        go_ret
        exact ⟨rfl, HB.out⟩
set_option maxRecDepth 100000 in
set_option maxHeartbeats 4000000 in
theorem rows_any (a : Nat → Addr) (B : Nat) (ix old x y sz : Int) (w : World) (hE : EnvP B a w) (q0 : 0 ≤ ix) (q1 : ix < 18446744073709551616) (q2 : 0 ≤ old) (q3 : old < 18446744073709551616) (q4 : 0 ≤ x) (q5 : x < 18446744073709551616) (q6 : 0 ≤ y) (q7 : y < 18446744073709551616) (q8 : 0 ≤ sz) (q9 : sz < 18446744073709551616) :
    Calls Tryd.prog 5 #[.agg #[.int .u64 ix, .int .u64 old, .int .u64 x, .int .u64 y, .int .u64 sz]] w fun ev w' => ev = .returned (.bool true) ∧ Below w.heap.size w w' := by
  have HE := Lib.hid hE
  obtain ⟨o1, o1s, _, o1S, o1P⟩ := ask_path a B ix sz q0 q1 q8 q9
  obtain ⟨o2, o2s, _, o2S, o2P⟩ := ask_proof a B old sz q2 q3 q8 q9
  obtain ⟨o3, o3s, _, o3S, o3P⟩ := ask_batch a B x y sz q4 q5 q6 q7 q8 q9
  have Q1 := Lib.hid (And.intro (fun l h => (⟨(o1s l h).1, (o1s l h).2.1⟩ : SpansOk l ∧ l.length ≤ 1000)) (And.intro o1S o1P))
  have Q2 := Lib.hid (And.intro (fun l h => (⟨(o2s l h).1, (o2s l h).2.1⟩ : SpansOk l ∧ l.length ≤ 1000)) (And.intro o2S o2P))
  have Q3 := Lib.hid (And.intro (fun l h => (⟨(o3s l h).1, (o3s l h).2.1⟩ : SpansOk l ∧ l.length ≤ 1000)) (And.intro o3S o3P))
  clear o1s o2s o3s o1S o2S o3S o1P o2P o3P q0 q1 q2 q3 q4 q5 q6 q7 q8 q9 hE
  obtain ⟨wz, hwz⟩ : ∃ z, w.alloc (.cells #[.int .u64 ix, .int .u64 old, .int .u64 x, .int .u64 y, .int .u64 sz] 41) = z := ⟨_, rfl⟩
  have bz : Gr w wz := by rw [← hwz]; exact (Gr.refl _).alloc _
  have KZ : Hid (∀ w', Gr wz w' → w'.cell? ⟨w.heap.size, 0, none⟩ = some (.int .u64 ix) ∧ w'.cell? ⟨w.heap.size, 1, none⟩ = some (.int .u64 old) ∧ w'.cell? ⟨w.heap.size, 2, none⟩ = some (.int .u64 x) ∧ w'.cell? ⟨w.heap.size, 3, none⟩ = some (.int .u64 y) ∧ w'.cell? ⟨w.heap.size, 4, none⟩ = some (.int .u64 sz)) := Lib.hid (fun w' h => by
    have hl : w.heap.size < wz.heap.size := by rw [← hwz]; simp
    have hr : w'.heap[w.heap.size]? = some (.cells #[.int .u64 ix, .int .u64 old, .int .u64 x, .int .u64 y, .int .u64 sz] 41 (0, 0)) := (h.block _ hl).trans (by rw [← hwz]; exact heap_at _ _ _ rfl)
    exact ⟨by rw [cell_of_row _ _ 0 _ _ _ hr]; rfl, by rw [cell_of_row _ _ 1 _ _ _ hr]; rfl, by rw [cell_of_row _ _ 2 _ _ _ hr]; rfl, by rw [cell_of_row _ _ 3 _ _ _ hr]; rfl, by rw [cell_of_row _ _ 4 _ _ _ hr]; rfl⟩)
  have HWZ := Lib.hid hwz
  clear hwz
  go_enter Tryd.func5, Tryd.ntmps5
  go_upto_region 1 with fail
  rw [HWZ.out]
  obtain ⟨c0, c1, c2, c3, c4⟩ := KZ.out wz (Gr.refl _)

  go_wp2_with fail
  refine (Q1.out.2.1 wz (show EnvP B a wz from HE.out.step (show Gr w wz from (by repeat (first | exact Gr.refl _ | (refine Gr.step ?_ (by assumption)) | (refine Gr.alloc ?_ _) | (refine Gr.drew ?_)))))).mono ?_
  rintro ev wa0 ⟨va0, ea0, rfl, S1, ba0⟩
  have S1 := Lib.hid S1
  have KA0 := Lib.hid (show Gr wz wa0 from (by repeat (first | exact Gr.refl _ | (refine Gr.step ?_ (by assumption)) | (refine Gr.alloc ?_ _) | (refine Gr.drew ?_))))
  clear c0 c1 c2 c3 c4
  obtain ⟨c0, c1, c2, c3, c4⟩ := KZ.out wa0 KA0.out
  go_wp2_with fail
  refine (Q1.out.2.2 wa0 (show EnvP B a wa0 from HE.out.step (show Gr w wa0 from (by repeat (first | exact Gr.refl _ | (refine Gr.step ?_ (by assumption)) | (refine Gr.alloc ?_ _) | (refine Gr.drew ?_)))))).mono ?_
  rintro ev wb0 ⟨vb0, eb0, rfl, P1, bb0⟩
  have P1 := Lib.hid P1
  have S1' := Lib.hid (S1.out.below bb0)
  go_wp2_with fail
  refine (covers_any a B _ va0 ea0 vb0 eb0 wb0 (show EnvP B a wb0 from HE.out.step (show Gr w wb0 from (by repeat (first | exact Gr.refl _ | (refine Gr.step ?_ (by assumption)) | (refine Gr.alloc ?_ _) | (refine Gr.drew ?_))))) Q1.out.1 S1'.out P1.out).mono ?_
  rintro ev wc0 ⟨rfl, bc0⟩
  have KC0 := Lib.hid (show Gr wz wc0 from (by repeat (first | exact Gr.refl _ | (refine Gr.step ?_ (by assumption)) | (refine Gr.alloc ?_ _) | (refine Gr.drew ?_))))
  clear c0 c1 c2 c3 c4
  obtain ⟨c0, c1, c2, c3, c4⟩ := KZ.out wc0 KC0.out
  go_wp2_with fail
  refine (Q2.out.2.1 wc0 (show EnvP B a wc0 from HE.out.step (show Gr w wc0 from (by repeat (first | exact Gr.refl _ | (refine Gr.step ?_ (by assumption)) | (refine Gr.alloc ?_ _) | (refine Gr.drew ?_)))))).mono ?_
  rintro ev wa1 ⟨va1, ea1, rfl, S2, ba1⟩
  have S2 := Lib.hid S2
  have KA1 := Lib.hid (show Gr wz wa1 from (by repeat (first | exact Gr.refl _ | (refine Gr.step ?_ (by assumption)) | (refine Gr.alloc ?_ _) | (refine Gr.drew ?_))))
  clear c0 c1 c2 c3 c4
  obtain ⟨c0, c1, c2, c3, c4⟩ := KZ.out wa1 KA1.out
  go_wp2_with fail
  refine (Q2.out.2.2 wa1 (show EnvP B a wa1 from HE.out.step (show Gr w wa1 from (by repeat (first | exact Gr.refl _ | (refine Gr.step ?_ (by assumption)) | (refine Gr.alloc ?_ _) | (refine Gr.drew ?_)))))).mono ?_
  rintro ev wb1 ⟨vb1, eb1, rfl, P2, bb1⟩
  have P2 := Lib.hid P2
  have S2' := Lib.hid (S2.out.below bb1)
  go_wp2_with fail
  refine (covers_any a B _ va1 ea1 vb1 eb1 wb1 (show EnvP B a wb1 from HE.out.step (show Gr w wb1 from (by repeat (first | exact Gr.refl _ | (refine Gr.step ?_ (by assumption)) | (refine Gr.alloc ?_ _) | (refine Gr.drew ?_))))) Q2.out.1 S2'.out P2.out).mono ?_
  rintro ev wc1 ⟨rfl, bc1⟩
  have KC1 := Lib.hid (show Gr wz wc1 from (by repeat (first | exact Gr.refl _ | (refine Gr.step ?_ (by assumption)) | (refine Gr.alloc ?_ _) | (refine Gr.drew ?_))))
  clear c0 c1 c2 c3 c4
  obtain ⟨c0, c1, c2, c3, c4⟩ := KZ.out wc1 KC1.out
  go_wp2_with fail
  refine (Q3.out.2.1 wc1 (show EnvP B a wc1 from HE.out.step (show Gr w wc1 from (by repeat (first | exact Gr.refl _ | (refine Gr.step ?_ (by assumption)) | (refine Gr.alloc ?_ _) | (refine Gr.drew ?_)))))).mono ?_
  rintro ev wa2 ⟨va2, ea2, rfl, S3, ba2⟩
  have S3 := Lib.hid S3
  have KA2 := Lib.hid (show Gr wz wa2 from (by repeat (first | exact Gr.refl _ | (refine Gr.step ?_ (by assumption)) | (refine Gr.alloc ?_ _) | (refine Gr.drew ?_))))
  clear c0 c1 c2 c3 c4
  obtain ⟨c0, c1, c2, c3, c4⟩ := KZ.out wa2 KA2.out
  go_wp2_with fail
  refine (Q3.out.2.2 wa2 (show EnvP B a wa2 from HE.out.step (show Gr w wa2 from (by repeat (first | exact Gr.refl _ | (refine Gr.step ?_ (by assumption)) | (refine Gr.alloc ?_ _) | (refine Gr.drew ?_)))))).mono ?_
  rintro ev wb2 ⟨vb2, eb2, rfl, P3, bb2⟩
  have P3 := Lib.hid P3
  have S3' := Lib.hid (S3.out.below bb2)
  go_wp2_with fail
  refine (covers_any a B _ va2 ea2 vb2 eb2 wb2 (show EnvP B a wb2 from HE.out.step (show Gr w wb2 from (by repeat (first | exact Gr.refl _ | (refine Gr.step ?_ (by assumption)) | (refine Gr.alloc ?_ _) | (refine Gr.drew ?_))))) Q3.out.1 S3'.out P3.out).mono ?_
  rintro ev wc2 ⟨rfl, bc2⟩
  have KC2 := Lib.hid (show Gr wz wc2 from (by repeat (first | exact Gr.refl _ | (refine Gr.step ?_ (by assumption)) | (refine Gr.alloc ?_ _) | (refine Gr.drew ?_))))
  clear c0 c1 c2 c3 c4
  obtain ⟨c0, c1, c2, c3, c4⟩ := KZ.out wc2 KC2.out
  go_wp2_with fail
  refine (alive15 a B wc2 (show EnvP B a wc2 from HE.out.step (show Gr w wc2 from (by repeat (first | exact Gr.refl _ | (refine Gr.step ?_ (by assumption)) | (refine Gr.alloc ?_ _) | (refine Gr.drew ?_)))))).mono ?_
  rintro ev wd ⟨rfl, bd⟩
  go_wp2
  go_ret
  exact ⟨rfl, show Gr w _ from (by repeat (first | exact Gr.refl _ | (refine Gr.step ?_ (by assumption)) | (refine Gr.alloc ?_ _) | (refine Gr.drew ?_)))⟩
end Go.Proofs.YtdodfeoaioolnaaDoor
