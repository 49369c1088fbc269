/- The law BatchCounts. Condition: the package-level variables read as listed. -/
import Derived.Test.YtmfngcnmacjbfaaDoorBatchAlive
import Derived.Test.YtmfngcnmacjbfaaDoorBeyond
namespace Go.Proofs.YtmfngcnmacjbfaaDoor
open Go.ChangeShapes Go.WideShapes Go.ChangeAt Go.RowKit
set_option linter.unusedVariables false
set_option maxRecDepth 100000 in
set_option maxHeartbeats 2000000 in
theorem great_any (A1 A2 : Option Addr) (n1 k1 n2 k2 : Nat) (ix : Int) (w : World) (h1 : n1 ≤ 9000000000000000000) (h2 : n2 ≤ 9000000000000000000) :
    Calls Tryd.prog 12 #[.agg #[.slice A1 n1 k1, .slice A2 n2 k2, .int .u64 ix]] w fun ev w' => ev = .returned (.bool (decide (1048576 < n1 + n2))) ∧ Below w.heap.size w w' := by
  have hbx : (Tryd.prog.info? 25).map (·.size) = some 3 := by kernel_rfl
  have HB : Hid (Below w.heap.size w ((w.alloc (.cells #[.slice A1 n1 k1, .slice A2 n2 k2, .int .u64 ix] 25)).alloc (.cells #[.int .i64 n1, .int .i64 n2] 3))) := Lib.hid (((Below.refl _ _).alloc (Nat.le_refl _) _).alloc (by simp) _)
  have hby := beyond_any [n1, n2] (w.heap.size + 1) 2 2 ((w.alloc (.cells #[.slice A1 n1 k1, .slice A2 n2 k2, .int .u64 ix] 25)).alloc (.cells #[.int .i64 n1, .int .i64 n2] 3)) rfl (by simp; omega) (fun j x hj => by
    have e : (w.alloc (.cells #[.slice A1 n1 k1, .slice A2 n2 k2, .int .u64 ix] 25)).heap.size = w.heap.size + 1 := by simp
    rw [← e]
    refine cell_new _ _ _ _ ?_
    match j, hj with
    | 0, hj => simp at hj; subst hj; rfl
    | 1, hj => simp at hj; subst hj; rfl
    | j + 2, hj => simp at hj) (by omega)
  have hs : [n1, n2].sum = n1 + n2 := by simp
  rw [hs] at hby
  go_enter Tryd.func12, Tryd.ntmps12
  go_wp2_with fail
  refine hby.mono ?_
  rintro ev w1 ⟨rfl, rfl⟩
  clear hby
  go_wp2
  go_ret
  exact ⟨rfl, HB.out⟩
set_option maxRecDepth 100000 in
set_option maxHeartbeats 4000000 in
theorem counts_great (a : Nat → Addr) (B : Nat) (x sz ix : Int) (A1 A2 : Option Addr) (n1 k1 n2 k2 : Nat) (L P : List (List UInt8)) (w : World) (hE : Env B a w) (h1 : HIn w A1 n1 k1 L) (h2 : HIn w A2 n2 k2 P) (m1 : n1 ≤ 9000000000000000000) (m2 : n2 ≤ 9000000000000000000) (hg : 1048576 < n1 + n2) :
    Calls Tryd.prog 4 #[.int .u64 x, .int .u64 sz, .agg #[.slice A1 n1 k1, .slice A2 n2 k2, .int .u64 ix]] w fun ev w' => ev = .returned (.bool true) ∧ Below w.heap.size w w' := by
  have HE := Lib.hid hE
  have H1 := Lib.hid h1
  have H2 := Lib.hid h2
  have hwb : w.heap.size < (w.alloc (.cells #[.slice A1 n1 k1, .slice A2 n2 k2, .int .u64 ix] 25)).heap.size := by simp
  have c0 : (w.alloc (.cells #[.slice A1 n1 k1, .slice A2 n2 k2, .int .u64 ix] 25)).cell? ⟨w.heap.size, 0, none⟩ = some (.slice A1 n1 k1) := cell_new _ _ 0 _ rfl
  have c1 : (w.alloc (.cells #[.slice A1 n1 k1, .slice A2 n2 k2, .int .u64 ix] 25)).cell? ⟨w.heap.size, 1, none⟩ = some (.slice A2 n2 k2) := cell_new _ _ 1 _ rfl
  have c2 : (w.alloc (.cells #[.slice A1 n1 k1, .slice A2 n2 k2, .int .u64 ix] 25)).cell? ⟨w.heap.size, 2, none⟩ = some (.int .u64 ix) := cell_new _ _ 2 _ rfl
  have gb : Gr w (w.alloc (.cells #[.slice A1 n1 k1, .slice A2 n2 k2, .int .u64 ix] 25)) := (Gr.refl _).alloc _
  obtain ⟨wb, hwb'⟩ : ∃ wb, w.alloc (.cells #[.slice A1 n1 k1, .slice A2 n2 k2, .int .u64 ix] 25) = wb := ⟨_, rfl⟩
  rw [hwb'] at hwb c0 c1 c2 gb
  have gb : Below w.heap.size w wb := gb
  have HWB := Lib.hid hwb'
  have hbx : (Tryd.prog.info? 25).map (·.size) = some 3 := by kernel_rfl
  clear hwb' hE h1 h2
  have hgd : decide (1048576 < n1 + n2) = true := by simpa using hg
  go_enter Tryd.func4, Tryd.ntmps4
  go_upto_region 1 with fail
  rw [HWB.out]
  go_wp2_with fail
  refine (alive19 a B wb (show Env B a wb from HE.out.step (by repeat (first | exact Gr.refl _ | (refine Gr.step ?_ (by assumption)) | (refine Gr.alloc ?_ _) | (refine Gr.drew ?_))))).mono ?_
  rintro ev w1 ⟨rfl, b1⟩
  have d0w1 := cell_below (show Gr wb w1 from (by repeat (first | exact Gr.refl _ | (refine Gr.step ?_ (by assumption)) | (refine Gr.alloc ?_ _) | (refine Gr.drew ?_)))) c0 hwb; have d1w1 := cell_below (show Gr wb w1 from (by repeat (first | exact Gr.refl _ | (refine Gr.step ?_ (by assumption)) | (refine Gr.alloc ?_ _) | (refine Gr.drew ?_)))) c1 hwb
  have d2w1 := cell_below (show Gr wb w1 from (by repeat (first | exact Gr.refl _ | (refine Gr.step ?_ (by assumption)) | (refine Gr.alloc ?_ _) | (refine Gr.drew ?_)))) c2 hwb
  go_wp2_with fail
  refine (great_any A1 A2 n1 k1 n2 k2 ix w1 m1 m2).mono ?_
  rintro ev w2 ⟨rfl, b2⟩
  rw [hgd]
  go_wp2_with fail
  refine (alive19 a B w2 (show Env B a w2 from HE.out.step (by repeat (first | exact Gr.refl _ | (refine Gr.step ?_ (by assumption)) | (refine Gr.alloc ?_ _) | (refine Gr.drew ?_))))).mono ?_
  rintro ev w3 ⟨rfl, b3⟩
  go_wp2
  go_ret
  exact ⟨rfl, show Gr w w3 from (by repeat (first | exact Gr.refl _ | (refine Gr.step ?_ (by assumption)) | (refine Gr.alloc ?_ _) | (refine Gr.drew ?_)))⟩

set_option maxRecDepth 100000 in
set_option maxHeartbeats 4000000 in
theorem counts_none (a : Nat → Addr) (B : Nat) (x sz ix : Int) (A1 A2 : Option Addr) (n1 k1 n2 k2 : Nat) (L P : List (List UInt8)) (w : World) (hE : Env B a w) (h1 : HIn w A1 n1 k1 L) (h2 : HIn w A2 n2 k2 P) (m1 : n1 ≤ 9000000000000000000) (m2 : n2 ≤ 9000000000000000000) (hg : n1 + n2 ≤ 1048576) (hx0 : 0 ≤ x) (hx1 : x < 18446744073709551616) (hs0 : 0 ≤ sz) (hs1 : sz < 18446744073709551616)
    (hk : batchK x sz n1 n2 = 2) :
    Calls Tryd.prog 4 #[.int .u64 x, .int .u64 sz, .agg #[.slice A1 n1 k1, .slice A2 n2 k2, .int .u64 ix]] w fun ev w' => ev = .returned (.bool true) ∧ Below w.heap.size w w' := by
  have HE := Lib.hid hE
  have H1 := Lib.hid h1
  have H2 := Lib.hid h2
  have hwb : w.heap.size < (w.alloc (.cells #[.slice A1 n1 k1, .slice A2 n2 k2, .int .u64 ix] 25)).heap.size := by simp
  have c0 : (w.alloc (.cells #[.slice A1 n1 k1, .slice A2 n2 k2, .int .u64 ix] 25)).cell? ⟨w.heap.size, 0, none⟩ = some (.slice A1 n1 k1) := cell_new _ _ 0 _ rfl
  have c1 : (w.alloc (.cells #[.slice A1 n1 k1, .slice A2 n2 k2, .int .u64 ix] 25)).cell? ⟨w.heap.size, 1, none⟩ = some (.slice A2 n2 k2) := cell_new _ _ 1 _ rfl
  have c2 : (w.alloc (.cells #[.slice A1 n1 k1, .slice A2 n2 k2, .int .u64 ix] 25)).cell? ⟨w.heap.size, 2, none⟩ = some (.int .u64 ix) := cell_new _ _ 2 _ rfl
  have gb : Gr w (w.alloc (.cells #[.slice A1 n1 k1, .slice A2 n2 k2, .int .u64 ix] 25)) := (Gr.refl _).alloc _
  obtain ⟨wb, hwb'⟩ : ∃ wb, w.alloc (.cells #[.slice A1 n1 k1, .slice A2 n2 k2, .int .u64 ix] 25) = wb := ⟨_, rfl⟩
  rw [hwb'] at hwb c0 c1 c2 gb
  have gb : Below w.heap.size w wb := gb
  have HWB := Lib.hid hwb'
  have hbx : (Tryd.prog.info? 25).map (·.size) = some 3 := by kernel_rfl
  clear hwb' hE h1 h2
  have hgd : decide (1048576 < n1 + n2) = false := by simp; omega
  have HG := Lib.hid hg
  obtain ⟨vz, ez, Hz, Zvz, Ivz, Ovz⟩ := row_of zeroH zeroH_length
  have HM := Lib.hid (And.intro m1 m2)
  have HROOT : Hid (∀ w, Env B a w → Calls Tryd.prog 15 #[.int .u64 x, .int .u64 sz, .slice A1 n1 k1, .slice A2 n2 k2] w fun ev w' => ev = .returned (.tuple #[.agg vz, errV a 2]) ∧ Below w.heap.size w w') := Lib.hid (fun w h => by
    have := root_bad a B x sz A1 A2 n1 n2 k1 k2 w h hx0 hx1 hs0 hs1 (by omega) (by omega) 2 hk (by omega)
    rw [ez] at this; exact this)
  have hwn : IntKind.u64.wrap (n1 : Int) = n1 := IntWalk.u64_in _ (by omega)
  have h0 : n1 = 0 := by
    unfold batchK at hk
    by_cases h : n1 = 0
    · exact h
    · rw [if_neg h] at hk
      split at hk
      · cases hk
      · split at hk <;> cases hk
  have hn0 : ((n1 : Int) == 0) = true := by simp [h0]
  clear h0
  clear hg hk m1 m2 ez
  go_enter Tryd.func4, Tryd.ntmps4
  go_upto_region 1 with fail
  rw [HWB.out]
  go_wp2_with fail
  refine (alive19 a B wb (show Env B a wb from HE.out.step (by repeat (first | exact Gr.refl _ | (refine Gr.step ?_ (by assumption)) | (refine Gr.alloc ?_ _) | (refine Gr.drew ?_))))).mono ?_
  rintro ev w1 ⟨rfl, b1⟩
  have d0w1 := cell_below (show Gr wb w1 from (by repeat (first | exact Gr.refl _ | (refine Gr.step ?_ (by assumption)) | (refine Gr.alloc ?_ _) | (refine Gr.drew ?_)))) c0 hwb; have d1w1 := cell_below (show Gr wb w1 from (by repeat (first | exact Gr.refl _ | (refine Gr.step ?_ (by assumption)) | (refine Gr.alloc ?_ _) | (refine Gr.drew ?_)))) c1 hwb
  have d2w1 := cell_below (show Gr wb w1 from (by repeat (first | exact Gr.refl _ | (refine Gr.step ?_ (by assumption)) | (refine Gr.alloc ?_ _) | (refine Gr.drew ?_)))) c2 hwb
  go_wp2_with fail
  refine (great_any A1 A2 n1 k1 n2 k2 ix w1 HM.out.1 HM.out.2).mono ?_
  rintro ev w2 ⟨rfl, b2⟩
  rw [hgd]
  have d0w2 := cell_below (show Gr wb w2 from (by repeat (first | exact Gr.refl _ | (refine Gr.step ?_ (by assumption)) | (refine Gr.alloc ?_ _) | (refine Gr.drew ?_)))) c0 hwb; have d1w2 := cell_below (show Gr wb w2 from (by repeat (first | exact Gr.refl _ | (refine Gr.step ?_ (by assumption)) | (refine Gr.alloc ?_ _) | (refine Gr.drew ?_)))) c1 hwb
  go_wp2_with fail
  refine (HROOT.out w2 (show Env B a w2 from HE.out.step (by repeat (first | exact Gr.refl _ | (refine Gr.step ?_ (by assumption)) | (refine Gr.alloc ?_ _) | (refine Gr.drew ?_))))).mono ?_
  rintro ev w3 ⟨rfl, b3⟩
  unfold errV
  go_wp2_with (refine wpList_store_row_any rfl 29 _ _ rfl w3.heap.size vz rfl rfl 29 _ (heap_at _ _ _ rfl) Ivz.out (by rw [Zvz.out]; rfl) Ovz.out ?_; intro w4 hbN hgN hsN; have b4 : Below w3.heap.size w3 w4 := ((Below.refl _ w3).alloc (Nat.le_refl _) _).trans (hbN.to_below (by simp) (fun k hk q => by omega)); have d0w4 := cell_below (show Gr wb w4 from (by repeat (first | exact Gr.refl _ | (refine Gr.step ?_ (by assumption)) | (refine Gr.alloc ?_ _) | (refine Gr.drew ?_)))) c0 hwb; have d1w4 := cell_below (show Gr wb w4 from (by repeat (first | exact Gr.refl _ | (refine Gr.step ?_ (by assumption)) | (refine Gr.alloc ?_ _) | (refine Gr.drew ?_)))) c1 hwb; clear hbN hgN hsN)
  change Calls _ _ #[errV a 2, _] _ _
  refine (is_sent a B 2 w4 (show Env B a w4 from HE.out.step (by repeat (first | exact Gr.refl _ | (refine Gr.step ?_ (by assumption)) | (refine Gr.alloc ?_ _) | (refine Gr.drew ?_)))).laid (by omega) (by omega)).mono ?_
  rintro ev w5 ⟨rfl, b5⟩
  go_wp2
  go_ret
  exact ⟨rfl, show Gr w w5 from (by repeat (first | exact Gr.refl _ | (refine Gr.step ?_ (by assumption)) | (refine Gr.alloc ?_ _) | (refine Gr.drew ?_)))⟩

set_option maxRecDepth 100000 in
set_option maxHeartbeats 4000000 in
theorem counts_range (a : Nat → Addr) (B : Nat) (x sz ix : Int) (A1 A2 : Option Addr) (n1 k1 n2 k2 : Nat) (L P : List (List UInt8)) (w : World) (hE : Env B a w) (h1 : HIn w A1 n1 k1 L) (h2 : HIn w A2 n2 k2 P) (m1 : n1 ≤ 9000000000000000000) (m2 : n2 ≤ 9000000000000000000) (hg : n1 + n2 ≤ 1048576) (hx0 : 0 ≤ x) (hx1 : x < 18446744073709551616) (hs0 : 0 ≤ sz) (hs1 : sz < 18446744073709551616)
    (hk : batchK x sz n1 n2 = 5) :
    Calls Tryd.prog 4 #[.int .u64 x, .int .u64 sz, .agg #[.slice A1 n1 k1, .slice A2 n2 k2, .int .u64 ix]] w fun ev w' => ev = .returned (.bool true) ∧ Below w.heap.size w w' := by
  have HE := Lib.hid hE
  have H1 := Lib.hid h1
  have H2 := Lib.hid h2
  have hwb : w.heap.size < (w.alloc (.cells #[.slice A1 n1 k1, .slice A2 n2 k2, .int .u64 ix] 25)).heap.size := by simp
  have c0 : (w.alloc (.cells #[.slice A1 n1 k1, .slice A2 n2 k2, .int .u64 ix] 25)).cell? ⟨w.heap.size, 0, none⟩ = some (.slice A1 n1 k1) := cell_new _ _ 0 _ rfl
  have c1 : (w.alloc (.cells #[.slice A1 n1 k1, .slice A2 n2 k2, .int .u64 ix] 25)).cell? ⟨w.heap.size, 1, none⟩ = some (.slice A2 n2 k2) := cell_new _ _ 1 _ rfl
  have c2 : (w.alloc (.cells #[.slice A1 n1 k1, .slice A2 n2 k2, .int .u64 ix] 25)).cell? ⟨w.heap.size, 2, none⟩ = some (.int .u64 ix) := cell_new _ _ 2 _ rfl
  have gb : Gr w (w.alloc (.cells #[.slice A1 n1 k1, .slice A2 n2 k2, .int .u64 ix] 25)) := (Gr.refl _).alloc _
  obtain ⟨wb, hwb'⟩ : ∃ wb, w.alloc (.cells #[.slice A1 n1 k1, .slice A2 n2 k2, .int .u64 ix] 25) = wb := ⟨_, rfl⟩
  rw [hwb'] at hwb c0 c1 c2 gb
  have gb : Below w.heap.size w wb := gb
  have HWB := Lib.hid hwb'
  have hbx : (Tryd.prog.info? 25).map (·.size) = some 3 := by kernel_rfl
  clear hwb' hE h1 h2
  have hgd : decide (1048576 < n1 + n2) = false := by simp; omega
  have HG := Lib.hid hg
  obtain ⟨vz, ez, Hz, Zvz, Ivz, Ovz⟩ := row_of zeroH zeroH_length
  have HM := Lib.hid (And.intro m1 m2)
  have HROOT : Hid (∀ w, Env B a w → Calls Tryd.prog 15 #[.int .u64 x, .int .u64 sz, .slice A1 n1 k1, .slice A2 n2 k2] w fun ev w' => ev = .returned (.tuple #[.agg vz, errV a 5]) ∧ Below w.heap.size w w') := Lib.hid (fun w h => by
    have := root_bad a B x sz A1 A2 n1 n2 k1 k2 w h hx0 hx1 hs0 hs1 (by omega) (by omega) 5 hk (by omega)
    rw [ez] at this; exact this)
  have hwn : IntKind.u64.wrap (n1 : Int) = n1 := IntWalk.u64_in _ (by omega)
  have h0 : n1 ≠ 0 ∧ (9223372036854775808 < sz ∨ sz < x ∨ sz - x < n1) := by
    unfold batchK at hk
    by_cases h : n1 = 0
    · rw [if_pos h] at hk; cases hk
    · rw [if_neg h] at hk
      refine ⟨h, ?_⟩
      by_cases h3 : 9223372036854775808 < sz ∨ sz < x ∨ sz - x < n1
      · exact h3
      · rw [if_neg h3] at hk
        split at hk <;> cases hk
  have hn0 : ((n1 : Int) == 0) = false := by simp; omega
  have h3 := h0.2
  clear h0
  clear hg hk m1 m2 ez
  by_cases q1 : 9223372036854775808 < sz
  · clear h3
    go_enter Tryd.func4, Tryd.ntmps4
    go_upto_region 1 with fail
    rw [HWB.out]
    go_wp2_with fail
    refine (alive19 a B wb (show Env B a wb from HE.out.step (by repeat (first | exact Gr.refl _ | (refine Gr.step ?_ (by assumption)) | (refine Gr.alloc ?_ _) | (refine Gr.drew ?_))))).mono ?_
    rintro ev w1 ⟨rfl, b1⟩
    have d0w1 := cell_below (show Gr wb w1 from (by repeat (first | exact Gr.refl _ | (refine Gr.step ?_ (by assumption)) | (refine Gr.alloc ?_ _) | (refine Gr.drew ?_)))) c0 hwb; have d1w1 := cell_below (show Gr wb w1 from (by repeat (first | exact Gr.refl _ | (refine Gr.step ?_ (by assumption)) | (refine Gr.alloc ?_ _) | (refine Gr.drew ?_)))) c1 hwb
    have d2w1 := cell_below (show Gr wb w1 from (by repeat (first | exact Gr.refl _ | (refine Gr.step ?_ (by assumption)) | (refine Gr.alloc ?_ _) | (refine Gr.drew ?_)))) c2 hwb
    go_wp2_with fail
    refine (great_any A1 A2 n1 k1 n2 k2 ix w1 HM.out.1 HM.out.2).mono ?_
    rintro ev w2 ⟨rfl, b2⟩
    rw [hgd]
    have d0w2 := cell_below (show Gr wb w2 from (by repeat (first | exact Gr.refl _ | (refine Gr.step ?_ (by assumption)) | (refine Gr.alloc ?_ _) | (refine Gr.drew ?_)))) c0 hwb; have d1w2 := cell_below (show Gr wb w2 from (by repeat (first | exact Gr.refl _ | (refine Gr.step ?_ (by assumption)) | (refine Gr.alloc ?_ _) | (refine Gr.drew ?_)))) c1 hwb
    go_wp2_with fail
    refine (HROOT.out w2 (show Env B a w2 from HE.out.step (by repeat (first | exact Gr.refl _ | (refine Gr.step ?_ (by assumption)) | (refine Gr.alloc ?_ _) | (refine Gr.drew ?_))))).mono ?_
    rintro ev w3 ⟨rfl, b3⟩
    unfold errV
    go_wp2_with (refine wpList_store_row_any rfl 29 _ _ rfl w3.heap.size vz rfl rfl 29 _ (heap_at _ _ _ rfl) Ivz.out (by rw [Zvz.out]; rfl) Ovz.out ?_; intro w4 hbN hgN hsN; have b4 : Below w3.heap.size w3 w4 := ((Below.refl _ w3).alloc (Nat.le_refl _) _).trans (hbN.to_below (by simp) (fun k hk q => by omega)); have d0w4 := cell_below (show Gr wb w4 from (by repeat (first | exact Gr.refl _ | (refine Gr.step ?_ (by assumption)) | (refine Gr.alloc ?_ _) | (refine Gr.drew ?_)))) c0 hwb; have d1w4 := cell_below (show Gr wb w4 from (by repeat (first | exact Gr.refl _ | (refine Gr.step ?_ (by assumption)) | (refine Gr.alloc ?_ _) | (refine Gr.drew ?_)))) c1 hwb; clear hbN hgN hsN)
    change Calls _ _ #[errV a 5, _] _ _
    refine (is_sent a B 5 w4 (show Env B a w4 from HE.out.step (by repeat (first | exact Gr.refl _ | (refine Gr.step ?_ (by assumption)) | (refine Gr.alloc ?_ _) | (refine Gr.drew ?_)))).laid (by omega) (by omega)).mono ?_
    rintro ev w5 ⟨rfl, b5⟩
    go_wp2
    go_ret
    exact ⟨rfl, show Gr w w5 from (by repeat (first | exact Gr.refl _ | (refine Gr.step ?_ (by assumption)) | (refine Gr.alloc ?_ _) | (refine Gr.drew ?_)))⟩
  · have q1' : decide (9223372036854775808 < sz) = false := by simp; omega
    by_cases q2 : sz < x
    · clear h3
      go_enter Tryd.func4, Tryd.ntmps4
      go_upto_region 1 with fail
      rw [HWB.out]
      go_wp2_with fail
      refine (alive19 a B wb (show Env B a wb from HE.out.step (by repeat (first | exact Gr.refl _ | (refine Gr.step ?_ (by assumption)) | (refine Gr.alloc ?_ _) | (refine Gr.drew ?_))))).mono ?_
      rintro ev w1 ⟨rfl, b1⟩
      have d0w1 := cell_below (show Gr wb w1 from (by repeat (first | exact Gr.refl _ | (refine Gr.step ?_ (by assumption)) | (refine Gr.alloc ?_ _) | (refine Gr.drew ?_)))) c0 hwb; have d1w1 := cell_below (show Gr wb w1 from (by repeat (first | exact Gr.refl _ | (refine Gr.step ?_ (by assumption)) | (refine Gr.alloc ?_ _) | (refine Gr.drew ?_)))) c1 hwb
      have d2w1 := cell_below (show Gr wb w1 from (by repeat (first | exact Gr.refl _ | (refine Gr.step ?_ (by assumption)) | (refine Gr.alloc ?_ _) | (refine Gr.drew ?_)))) c2 hwb
      go_wp2_with fail
      refine (great_any A1 A2 n1 k1 n2 k2 ix w1 HM.out.1 HM.out.2).mono ?_
      rintro ev w2 ⟨rfl, b2⟩
      rw [hgd]
      have d0w2 := cell_below (show Gr wb w2 from (by repeat (first | exact Gr.refl _ | (refine Gr.step ?_ (by assumption)) | (refine Gr.alloc ?_ _) | (refine Gr.drew ?_)))) c0 hwb; have d1w2 := cell_below (show Gr wb w2 from (by repeat (first | exact Gr.refl _ | (refine Gr.step ?_ (by assumption)) | (refine Gr.alloc ?_ _) | (refine Gr.drew ?_)))) c1 hwb
      go_wp2_with fail
      refine (HROOT.out w2 (show Env B a w2 from HE.out.step (by repeat (first | exact Gr.refl _ | (refine Gr.step ?_ (by assumption)) | (refine Gr.alloc ?_ _) | (refine Gr.drew ?_))))).mono ?_
      rintro ev w3 ⟨rfl, b3⟩
      unfold errV
      go_wp2_with (refine wpList_store_row_any rfl 29 _ _ rfl w3.heap.size vz rfl rfl 29 _ (heap_at _ _ _ rfl) Ivz.out (by rw [Zvz.out]; rfl) Ovz.out ?_; intro w4 hbN hgN hsN; have b4 : Below w3.heap.size w3 w4 := ((Below.refl _ w3).alloc (Nat.le_refl _) _).trans (hbN.to_below (by simp) (fun k hk q => by omega)); have d0w4 := cell_below (show Gr wb w4 from (by repeat (first | exact Gr.refl _ | (refine Gr.step ?_ (by assumption)) | (refine Gr.alloc ?_ _) | (refine Gr.drew ?_)))) c0 hwb; have d1w4 := cell_below (show Gr wb w4 from (by repeat (first | exact Gr.refl _ | (refine Gr.step ?_ (by assumption)) | (refine Gr.alloc ?_ _) | (refine Gr.drew ?_)))) c1 hwb; clear hbN hgN hsN)
      change Calls _ _ #[errV a 5, _] _ _
      refine (is_sent a B 5 w4 (show Env B a w4 from HE.out.step (by repeat (first | exact Gr.refl _ | (refine Gr.step ?_ (by assumption)) | (refine Gr.alloc ?_ _) | (refine Gr.drew ?_)))).laid (by omega) (by omega)).mono ?_
      rintro ev w5 ⟨rfl, b5⟩
      go_wp2
      go_ret
      exact ⟨rfl, show Gr w w5 from (by repeat (first | exact Gr.refl _ | (refine Gr.step ?_ (by assumption)) | (refine Gr.alloc ?_ _) | (refine Gr.drew ?_)))⟩
    · have q2' : x ≤ sz := by omega
      have q3 : sz - x < n1 := by omega
      clear h3
      go_enter Tryd.func4, Tryd.ntmps4
      go_upto_region 1 with fail
      rw [HWB.out]
      go_wp2_with fail
      refine (alive19 a B wb (show Env B a wb from HE.out.step (by repeat (first | exact Gr.refl _ | (refine Gr.step ?_ (by assumption)) | (refine Gr.alloc ?_ _) | (refine Gr.drew ?_))))).mono ?_
      rintro ev w1 ⟨rfl, b1⟩
      have d0w1 := cell_below (show Gr wb w1 from (by repeat (first | exact Gr.refl _ | (refine Gr.step ?_ (by assumption)) | (refine Gr.alloc ?_ _) | (refine Gr.drew ?_)))) c0 hwb; have d1w1 := cell_below (show Gr wb w1 from (by repeat (first | exact Gr.refl _ | (refine Gr.step ?_ (by assumption)) | (refine Gr.alloc ?_ _) | (refine Gr.drew ?_)))) c1 hwb
      have d2w1 := cell_below (show Gr wb w1 from (by repeat (first | exact Gr.refl _ | (refine Gr.step ?_ (by assumption)) | (refine Gr.alloc ?_ _) | (refine Gr.drew ?_)))) c2 hwb
      go_wp2_with fail
      refine (great_any A1 A2 n1 k1 n2 k2 ix w1 HM.out.1 HM.out.2).mono ?_
      rintro ev w2 ⟨rfl, b2⟩
      rw [hgd]
      have d0w2 := cell_below (show Gr wb w2 from (by repeat (first | exact Gr.refl _ | (refine Gr.step ?_ (by assumption)) | (refine Gr.alloc ?_ _) | (refine Gr.drew ?_)))) c0 hwb; have d1w2 := cell_below (show Gr wb w2 from (by repeat (first | exact Gr.refl _ | (refine Gr.step ?_ (by assumption)) | (refine Gr.alloc ?_ _) | (refine Gr.drew ?_)))) c1 hwb
      go_wp2_with fail
      refine (HROOT.out w2 (show Env B a w2 from HE.out.step (by repeat (first | exact Gr.refl _ | (refine Gr.step ?_ (by assumption)) | (refine Gr.alloc ?_ _) | (refine Gr.drew ?_))))).mono ?_
      rintro ev w3 ⟨rfl, b3⟩
      unfold errV
      go_wp2_with (refine wpList_store_row_any rfl 29 _ _ rfl w3.heap.size vz rfl rfl 29 _ (heap_at _ _ _ rfl) Ivz.out (by rw [Zvz.out]; rfl) Ovz.out ?_; intro w4 hbN hgN hsN; have b4 : Below w3.heap.size w3 w4 := ((Below.refl _ w3).alloc (Nat.le_refl _) _).trans (hbN.to_below (by simp) (fun k hk q => by omega)); have d0w4 := cell_below (show Gr wb w4 from (by repeat (first | exact Gr.refl _ | (refine Gr.step ?_ (by assumption)) | (refine Gr.alloc ?_ _) | (refine Gr.drew ?_)))) c0 hwb; have d1w4 := cell_below (show Gr wb w4 from (by repeat (first | exact Gr.refl _ | (refine Gr.step ?_ (by assumption)) | (refine Gr.alloc ?_ _) | (refine Gr.drew ?_)))) c1 hwb; clear hbN hgN hsN)
      change Calls _ _ #[errV a 5, _] _ _
      refine (is_sent a B 5 w4 (show Env B a w4 from HE.out.step (by repeat (first | exact Gr.refl _ | (refine Gr.step ?_ (by assumption)) | (refine Gr.alloc ?_ _) | (refine Gr.drew ?_)))).laid (by omega) (by omega)).mono ?_
      rintro ev w5 ⟨rfl, b5⟩
      go_wp2
      go_ret
      exact ⟨rfl, show Gr w w5 from (by repeat (first | exact Gr.refl _ | (refine Gr.step ?_ (by assumption)) | (refine Gr.alloc ?_ _) | (refine Gr.drew ?_)))⟩

set_option maxRecDepth 100000 in
set_option maxHeartbeats 4000000 in
theorem counts_count (a : Nat → Addr) (B : Nat) (x sz ix : Int) (A1 A2 : Option Addr) (n1 k1 n2 k2 : Nat) (L P : List (List UInt8)) (w : World) (hE : Env B a w) (h1 : HIn w A1 n1 k1 L) (h2 : HIn w A2 n2 k2 P) (m1 : n1 ≤ 9000000000000000000) (m2 : n2 ≤ 9000000000000000000) (hg : n1 + n2 ≤ 1048576) (hx0 : 0 ≤ x) (hx1 : x < 18446744073709551616) (hs0 : 0 ≤ sz) (hs1 : sz < 18446744073709551616)
    (hk : batchK x sz n1 n2 = 10) :
    Calls Tryd.prog 4 #[.int .u64 x, .int .u64 sz, .agg #[.slice A1 n1 k1, .slice A2 n2 k2, .int .u64 ix]] w fun ev w' => ev = .returned (.bool true) ∧ Below w.heap.size w w' := by
  have HE := Lib.hid hE
  have H1 := Lib.hid h1
  have H2 := Lib.hid h2
  have hwb : w.heap.size < (w.alloc (.cells #[.slice A1 n1 k1, .slice A2 n2 k2, .int .u64 ix] 25)).heap.size := by simp
  have c0 : (w.alloc (.cells #[.slice A1 n1 k1, .slice A2 n2 k2, .int .u64 ix] 25)).cell? ⟨w.heap.size, 0, none⟩ = some (.slice A1 n1 k1) := cell_new _ _ 0 _ rfl
  have c1 : (w.alloc (.cells #[.slice A1 n1 k1, .slice A2 n2 k2, .int .u64 ix] 25)).cell? ⟨w.heap.size, 1, none⟩ = some (.slice A2 n2 k2) := cell_new _ _ 1 _ rfl
  have c2 : (w.alloc (.cells #[.slice A1 n1 k1, .slice A2 n2 k2, .int .u64 ix] 25)).cell? ⟨w.heap.size, 2, none⟩ = some (.int .u64 ix) := cell_new _ _ 2 _ rfl
  have gb : Gr w (w.alloc (.cells #[.slice A1 n1 k1, .slice A2 n2 k2, .int .u64 ix] 25)) := (Gr.refl _).alloc _
  obtain ⟨wb, hwb'⟩ : ∃ wb, w.alloc (.cells #[.slice A1 n1 k1, .slice A2 n2 k2, .int .u64 ix] 25) = wb := ⟨_, rfl⟩
  rw [hwb'] at hwb c0 c1 c2 gb
  have gb : Below w.heap.size w wb := gb
  have HWB := Lib.hid hwb'
  have hbx : (Tryd.prog.info? 25).map (·.size) = some 3 := by kernel_rfl
  clear hwb' hE h1 h2
  have hgd : decide (1048576 < n1 + n2) = false := by simp; omega
  have HG := Lib.hid hg
  obtain ⟨vz, ez, Hz, Zvz, Ivz, Ovz⟩ := row_of zeroH zeroH_length
  have HM := Lib.hid (And.intro m1 m2)
  have HROOT : Hid (∀ w, Env B a w → Calls Tryd.prog 15 #[.int .u64 x, .int .u64 sz, .slice A1 n1 k1, .slice A2 n2 k2] w fun ev w' => ev = .returned (.tuple #[.agg vz, errV a 10]) ∧ Below w.heap.size w w') := Lib.hid (fun w h => by
    have := root_bad a B x sz A1 A2 n1 n2 k1 k2 w h hx0 hx1 hs0 hs1 (by omega) (by omega) 10 hk (by omega)
    rw [ez] at this; exact this)
  have hwn : IntKind.u64.wrap (n1 : Int) = n1 := IntWalk.u64_in _ (by omega)
  have h0 : n1 ≠ 0 ∧ ¬ (9223372036854775808 < sz ∨ sz < x ∨ sz - x < n1) ∧ ((batchL 64 x (x + n1) 0 sz).length ≠ n2) := by
    unfold batchK at hk
    by_cases h : n1 = 0
    · rw [if_pos h] at hk; cases hk
    · rw [if_neg h] at hk
      by_cases h3 : 9223372036854775808 < sz ∨ sz < x ∨ sz - x < n1
      · rw [if_pos h3] at hk; cases hk
      · rw [if_neg h3] at hk
        refine ⟨h, h3, ?_⟩
        by_cases h4 : (batchL 64 x (x + n1) 0 sz).length ≠ n2
        · first | exact h4 | (rw [if_pos h4] at hk; cases hk)
        · first | (rw [if_neg h4] at hk; cases hk; done) | omega
  have hn0 : ((n1 : Int) == 0) = false := by simp; omega
  have q1 : ¬ 9223372036854775808 < sz := by omega
  have q2 : ¬ sz < x := by omega
  have q2' : x ≤ sz := by omega
  have q3 : ¬ sz - x < n1 := by omega
  have hbo := fun w => batch_ok x (x + n1) sz w hx0 (by omega) (by omega) (by omega)
  have hsum : x + (n1 : Int) < 18446744073709551616 := by omega
  obtain ⟨lst, hlst⟩ : ∃ l, batchL 64 x (x + n1) 0 sz = l := ⟨_, rfl⟩
  rw [hlst] at h0 hbo
  obtain ⟨q, hq⟩ : ∃ q, lst.length = q := ⟨_, rfl⟩
  rw [hq] at h0 hbo
  have HBO := Lib.hid hbo
  have hne : ((q : Int) != (n2 : Int)) = true := by simp; omega
  have HVER : Hid (∀ w, Env B a w → Calls Tryd.prog 16 #[.int .u64 x, .int .u64 sz, .slice A1 n1 k1, .slice A2 n2 k2, .agg #[.int .u8 0, .int .u8 0, .int .u8 0, .int .u8 0, .int .u8 0, .int .u8 0, .int .u8 0, .int .u8 0, .int .u8 0, .int .u8 0, .int .u8 0, .int .u8 0, .int .u8 0, .int .u8 0, .int .u8 0, .int .u8 0, .int .u8 0, .int .u8 0, .int .u8 0, .int .u8 0, .int .u8 0, .int .u8 0, .int .u8 0, .int .u8 0, .int .u8 0, .int .u8 0, .int .u8 0, .int .u8 0, .int .u8 0, .int .u8 0, .int .u8 0, .int .u8 0]] w fun ev w' => ev = .returned (errV a 10) ∧ Below w.heap.size w w') := Lib.hid (fun w h => by
    have := verify_bad a B x sz A1 A2 n1 n2 k1 k2 zeroH zeroH_length w h hx0 hx1 hs0 hs1 (by omega) (by omega) 10 hk (by omega)
    rw [zeroH_v] at this; exact this)
  clear h0 hlst hq hbo
  clear hg hk m1 m2 ez
  go_enter Tryd.func4, Tryd.ntmps4
  go_upto_region 1 with fail
  rw [HWB.out]
  go_wp2_with fail
  refine (alive19 a B wb (show Env B a wb from HE.out.step (by repeat (first | exact Gr.refl _ | (refine Gr.step ?_ (by assumption)) | (refine Gr.alloc ?_ _) | (refine Gr.drew ?_))))).mono ?_
  rintro ev w1 ⟨rfl, b1⟩
  have d0w1 := cell_below (show Gr wb w1 from (by repeat (first | exact Gr.refl _ | (refine Gr.step ?_ (by assumption)) | (refine Gr.alloc ?_ _) | (refine Gr.drew ?_)))) c0 hwb; have d1w1 := cell_below (show Gr wb w1 from (by repeat (first | exact Gr.refl _ | (refine Gr.step ?_ (by assumption)) | (refine Gr.alloc ?_ _) | (refine Gr.drew ?_)))) c1 hwb
  have d2w1 := cell_below (show Gr wb w1 from (by repeat (first | exact Gr.refl _ | (refine Gr.step ?_ (by assumption)) | (refine Gr.alloc ?_ _) | (refine Gr.drew ?_)))) c2 hwb
  go_wp2_with fail
  refine (great_any A1 A2 n1 k1 n2 k2 ix w1 HM.out.1 HM.out.2).mono ?_
  rintro ev w2 ⟨rfl, b2⟩
  rw [hgd]
  have d0w2 := cell_below (show Gr wb w2 from (by repeat (first | exact Gr.refl _ | (refine Gr.step ?_ (by assumption)) | (refine Gr.alloc ?_ _) | (refine Gr.drew ?_)))) c0 hwb; have d1w2 := cell_below (show Gr wb w2 from (by repeat (first | exact Gr.refl _ | (refine Gr.step ?_ (by assumption)) | (refine Gr.alloc ?_ _) | (refine Gr.drew ?_)))) c1 hwb
  go_wp2_with fail
  refine (HROOT.out w2 (show Env B a w2 from HE.out.step (by repeat (first | exact Gr.refl _ | (refine Gr.step ?_ (by assumption)) | (refine Gr.alloc ?_ _) | (refine Gr.drew ?_))))).mono ?_
  rintro ev w3 ⟨rfl, b3⟩
  unfold errV
  go_wp2_with (refine wpList_store_row_any rfl 29 _ _ rfl w3.heap.size vz rfl rfl 29 _ (heap_at _ _ _ rfl) Ivz.out (by rw [Zvz.out]; rfl) Ovz.out ?_; intro w4 hbN hgN hsN; have b4 : Below w3.heap.size w3 w4 := ((Below.refl _ w3).alloc (Nat.le_refl _) _).trans (hbN.to_below (by simp) (fun k hk q => by omega)); have d0w4 := cell_below (show Gr wb w4 from (by repeat (first | exact Gr.refl _ | (refine Gr.step ?_ (by assumption)) | (refine Gr.alloc ?_ _) | (refine Gr.drew ?_)))) c0 hwb; have d1w4 := cell_below (show Gr wb w4 from (by repeat (first | exact Gr.refl _ | (refine Gr.step ?_ (by assumption)) | (refine Gr.alloc ?_ _) | (refine Gr.drew ?_)))) c1 hwb; clear hbN hgN hsN)
  refine (HBO.out w4).mono ?_
  rintro ev w5 ⟨v, rfl, hown, b5⟩
  obtain ⟨Aq, cq, rfl, hcq⟩ := own_shape hown
  clear hown
  have d0w5 := cell_below (show Gr wb w5 from (by repeat (first | exact Gr.refl _ | (refine Gr.step ?_ (by assumption)) | (refine Gr.alloc ?_ _) | (refine Gr.drew ?_)))) c0 hwb; have d1w5 := cell_below (show Gr wb w5 from (by repeat (first | exact Gr.refl _ | (refine Gr.step ?_ (by assumption)) | (refine Gr.alloc ?_ _) | (refine Gr.drew ?_)))) c1 hwb
  go_wp2_with fail
  change Calls _ _ #[errV a 10, _] _ _
  refine (is_sent a B 10 w5 (show Env B a w5 from HE.out.step (by repeat (first | exact Gr.refl _ | (refine Gr.step ?_ (by assumption)) | (refine Gr.alloc ?_ _) | (refine Gr.drew ?_)))).laid (by omega) (by omega)).mono ?_
  rintro ev w6 ⟨rfl, b6⟩
  have d0w6 := cell_below (show Gr wb w6 from (by repeat (first | exact Gr.refl _ | (refine Gr.step ?_ (by assumption)) | (refine Gr.alloc ?_ _) | (refine Gr.drew ?_)))) c0 hwb; have d1w6 := cell_below (show Gr wb w6 from (by repeat (first | exact Gr.refl _ | (refine Gr.step ?_ (by assumption)) | (refine Gr.alloc ?_ _) | (refine Gr.drew ?_)))) c1 hwb
  go_wp2_with fail
  refine (HVER.out w6 (show Env B a w6 from HE.out.step (by repeat (first | exact Gr.refl _ | (refine Gr.step ?_ (by assumption)) | (refine Gr.alloc ?_ _) | (refine Gr.drew ?_))))).mono ?_
  rintro ev w7 ⟨rfl, b7⟩
  go_wp2_with fail
  refine (is_sent a B 10 w7 (show Env B a w7 from HE.out.step (by repeat (first | exact Gr.refl _ | (refine Gr.step ?_ (by assumption)) | (refine Gr.alloc ?_ _) | (refine Gr.drew ?_)))).laid (by omega) (by omega)).mono ?_
  rintro ev w8 ⟨rfl, b8⟩
  go_wp2
  go_ret
  exact ⟨rfl, show Gr w w8 from (by repeat (first | exact Gr.refl _ | (refine Gr.step ?_ (by assumption)) | (refine Gr.alloc ?_ _) | (refine Gr.drew ?_)))⟩

set_option maxRecDepth 100000 in
set_option maxHeartbeats 4000000 in
theorem counts_ok (a : Nat → Addr) (B : Nat) (x sz ix : Int) (A1 A2 : Option Addr) (n1 k1 n2 k2 : Nat) (L P : List (List UInt8)) (w : World) (hE : Env B a w) (h1 : HIn w A1 n1 k1 L) (h2 : HIn w A2 n2 k2 P) (m1 : n1 ≤ 9000000000000000000) (m2 : n2 ≤ 9000000000000000000) (hg : n1 + n2 ≤ 1048576) (hx0 : 0 ≤ x) (hx1 : x < 18446744073709551616) (hs0 : 0 ≤ sz) (hs1 : sz < 18446744073709551616)
    (hk : batchK x sz n1 n2 = 0) :
    Calls Tryd.prog 4 #[.int .u64 x, .int .u64 sz, .agg #[.slice A1 n1 k1, .slice A2 n2 k2, .int .u64 ix]] w fun ev w' => ev = .returned (.bool true) ∧ Below w.heap.size w w' := by
  have HE := Lib.hid hE
  have H1 := Lib.hid h1
  have H2 := Lib.hid h2
  have hwb : w.heap.size < (w.alloc (.cells #[.slice A1 n1 k1, .slice A2 n2 k2, .int .u64 ix] 25)).heap.size := by simp
  have c0 : (w.alloc (.cells #[.slice A1 n1 k1, .slice A2 n2 k2, .int .u64 ix] 25)).cell? ⟨w.heap.size, 0, none⟩ = some (.slice A1 n1 k1) := cell_new _ _ 0 _ rfl
  have c1 : (w.alloc (.cells #[.slice A1 n1 k1, .slice A2 n2 k2, .int .u64 ix] 25)).cell? ⟨w.heap.size, 1, none⟩ = some (.slice A2 n2 k2) := cell_new _ _ 1 _ rfl
  have c2 : (w.alloc (.cells #[.slice A1 n1 k1, .slice A2 n2 k2, .int .u64 ix] 25)).cell? ⟨w.heap.size, 2, none⟩ = some (.int .u64 ix) := cell_new _ _ 2 _ rfl
  have gb : Gr w (w.alloc (.cells #[.slice A1 n1 k1, .slice A2 n2 k2, .int .u64 ix] 25)) := (Gr.refl _).alloc _
  obtain ⟨wb, hwb'⟩ : ∃ wb, w.alloc (.cells #[.slice A1 n1 k1, .slice A2 n2 k2, .int .u64 ix] 25) = wb := ⟨_, rfl⟩
  rw [hwb'] at hwb c0 c1 c2 gb
  have gb : Below w.heap.size w wb := gb
  have HWB := Lib.hid hwb'
  have hbx : (Tryd.prog.info? 25).map (·.size) = some 3 := by kernel_rfl
  clear hwb' hE h1 h2
  have hgd : decide (1048576 < n1 + n2) = false := by simp; omega
  have HG := Lib.hid hg
  have HM := Lib.hid (And.intro m1 m2)
  have h0 : n1 ≠ 0 ∧ ¬ (9223372036854775808 < sz ∨ sz < x ∨ sz - x < n1) ∧ ((batchL 64 x (x + n1) 0 sz).length = n2) := by
    unfold batchK at hk
    by_cases h : n1 = 0
    · rw [if_pos h] at hk; cases hk
    · rw [if_neg h] at hk
      by_cases h3 : 9223372036854775808 < sz ∨ sz < x ∨ sz - x < n1
      · rw [if_pos h3] at hk; cases hk
      · rw [if_neg h3] at hk
        refine ⟨h, h3, ?_⟩
        by_cases h4 : (batchL 64 x (x + n1) 0 sz).length ≠ n2
        · first | exact h4 | (rw [if_pos h4] at hk; cases hk)
        · first | (rw [if_neg h4] at hk; cases hk; done) | omega
  have hn0 : ((n1 : Int) == 0) = false := by simp; omega
  have q1 : ¬ 9223372036854775808 < sz := by omega
  have q2 : ¬ sz < x := by omega
  have q2' : x ≤ sz := by omega
  have q3 : ¬ sz - x < n1 := by omega
  have hbo := fun w => batch_ok x (x + n1) sz w hx0 (by omega) (by omega) (by omega)
  have hsum : x + (n1 : Int) < 18446744073709551616 := by omega
  obtain ⟨lst, hlst⟩ : ∃ l, batchL 64 x (x + n1) 0 sz = l := ⟨_, rfl⟩
  rw [hlst] at h0 hbo
  obtain ⟨q, hq⟩ : ∃ q, lst.length = q := ⟨_, rfl⟩
  rw [hq] at h0 hbo
  have HBO := Lib.hid hbo
  obtain ⟨h0a, h0b, rfl⟩ := h0
  have hne : ((q : Int) != (q : Int)) = false := by simp
  obtain ⟨r, hr⟩ : ∃ r, rootB x sz L P = r := ⟨_, rfl⟩
  have HROOT : Hid (∀ w, Env B a w → HIn w A1 n1 k1 L → HIn w A2 q k2 P → Calls Tryd.prog 15 #[.int .u64 x, .int .u64 sz, .slice A1 n1 k1, .slice A2 q k2] w fun ev w' => ev = .returned (.tuple #[hv r, .nilIface]) ∧ r.length = 32 ∧ Below w.heap.size w w') := Lib.hid (fun w h i1 i2 => by
    have e1 := i1.2.1
    have e2 := i2.2.1
    subst e1 e2
    have := root_ok a B x sz A1 A2 k1 k2 L P w h i1 i2 hx0 hx1 hs0 hs1 hk
    rw [hr] at this; exact this)
  have hwn : IntKind.u64.wrap (n1 : Int) = n1 := IntWalk.u64_in _ (by omega)
  clear h0a h0b hlst hq hbo hg hk m1 m2 hr
  go_enter Tryd.func4, Tryd.ntmps4
  go_upto_region 1 with fail
  rw [HWB.out]
  go_wp2_with fail
  refine (alive19 a B wb (show Env B a wb from HE.out.step (by repeat (first | exact Gr.refl _ | (refine Gr.step ?_ (by assumption)) | (refine Gr.alloc ?_ _) | (refine Gr.drew ?_))))).mono ?_
  rintro ev w1 ⟨rfl, b1⟩
  have d0w1 := cell_below (show Gr wb w1 from (by repeat (first | exact Gr.refl _ | (refine Gr.step ?_ (by assumption)) | (refine Gr.alloc ?_ _) | (refine Gr.drew ?_)))) c0 hwb; have d1w1 := cell_below (show Gr wb w1 from (by repeat (first | exact Gr.refl _ | (refine Gr.step ?_ (by assumption)) | (refine Gr.alloc ?_ _) | (refine Gr.drew ?_)))) c1 hwb
  have d2w1 := cell_below (show Gr wb w1 from (by repeat (first | exact Gr.refl _ | (refine Gr.step ?_ (by assumption)) | (refine Gr.alloc ?_ _) | (refine Gr.drew ?_)))) c2 hwb
  go_wp2_with fail
  refine (great_any A1 A2 n1 k1 q k2 ix w1 HM.out.1 HM.out.2).mono ?_
  rintro ev w2 ⟨rfl, b2⟩
  rw [hgd]
  have d0w2 := cell_below (show Gr wb w2 from (by repeat (first | exact Gr.refl _ | (refine Gr.step ?_ (by assumption)) | (refine Gr.alloc ?_ _) | (refine Gr.drew ?_)))) c0 hwb; have d1w2 := cell_below (show Gr wb w2 from (by repeat (first | exact Gr.refl _ | (refine Gr.step ?_ (by assumption)) | (refine Gr.alloc ?_ _) | (refine Gr.drew ?_)))) c1 hwb
  go_wp2_with fail
  refine (HROOT.out w2 (show Env B a w2 from HE.out.step (by repeat (first | exact Gr.refl _ | (refine Gr.step ?_ (by assumption)) | (refine Gr.alloc ?_ _) | (refine Gr.drew ?_)))) (H1.out.below (show Gr w w2 from (by repeat (first | exact Gr.refl _ | (refine Gr.step ?_ (by assumption)) | (refine Gr.alloc ?_ _) | (refine Gr.drew ?_))))) (H2.out.below (show Gr w w2 from (by repeat (first | exact Gr.refl _ | (refine Gr.step ?_ (by assumption)) | (refine Gr.alloc ?_ _) | (refine Gr.drew ?_)))))).mono ?_
  rintro ev w3 ⟨rfl, hrl, b3⟩
  obtain ⟨vr, er, Hr, Zvr, Ivr, Ovr⟩ := row_of r hrl
  rw [er]
  clear er hrl
  go_wp2_with (refine wpList_store_row_any rfl 29 _ _ rfl w3.heap.size vr rfl rfl 29 _ (heap_at _ _ _ rfl) Ivr.out (by rw [Zvr.out]; rfl) Ovr.out ?_; intro w4 hbN hgN hsN; have b4 : Below w3.heap.size w3 w4 := ((Below.refl _ w3).alloc (Nat.le_refl _) _).trans (hbN.to_below (by simp) (fun k hk q => by omega)); have d0w4 := cell_below (show Gr wb w4 from (by repeat (first | exact Gr.refl _ | (refine Gr.step ?_ (by assumption)) | (refine Gr.alloc ?_ _) | (refine Gr.drew ?_)))) c0 hwb; have d1w4 := cell_below (show Gr wb w4 from (by repeat (first | exact Gr.refl _ | (refine Gr.step ?_ (by assumption)) | (refine Gr.alloc ?_ _) | (refine Gr.drew ?_)))) c1 hwb; clear hbN hgN hsN)
  refine (HBO.out w4).mono ?_
  rintro ev w5 ⟨v, rfl, hown, b5⟩
  obtain ⟨Aq, cq, rfl, hcq⟩ := own_shape hown
  clear hown
  have d0w5 := cell_below (show Gr wb w5 from (by repeat (first | exact Gr.refl _ | (refine Gr.step ?_ (by assumption)) | (refine Gr.alloc ?_ _) | (refine Gr.drew ?_)))) c0 hwb; have d1w5 := cell_below (show Gr wb w5 from (by repeat (first | exact Gr.refl _ | (refine Gr.step ?_ (by assumption)) | (refine Gr.alloc ?_ _) | (refine Gr.drew ?_)))) c1 hwb
  go_wp2
  go_ret
  exact ⟨rfl, show Gr w w5 from (by repeat (first | exact Gr.refl _ | (refine Gr.step ?_ (by assumption)) | (refine Gr.alloc ?_ _) | (refine Gr.drew ?_)))⟩

theorem batchK_of (x sz : Int) (n m : Nat) : batchK x sz n m = 2 ∨ batchK x sz n m = 5 ∨ batchK x sz n m = 10 ∨ batchK x sz n m = 0 := by
  unfold batchK
  split
  · exact .inl rfl
  · split
    · exact .inr (.inl rfl)
    · split
      · exact .inr (.inr (.inl rfl))
      · exact .inr (.inr (.inr rfl))
end Go.Proofs.YtmfngcnmacjbfaaDoor
