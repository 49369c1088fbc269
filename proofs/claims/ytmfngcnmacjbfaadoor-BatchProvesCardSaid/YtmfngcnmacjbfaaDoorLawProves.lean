/- The law BatchProves. Condition: the package-level variables read as listed. -/
import Derived.Test.YtmfngcnmacjbfaaDoorLawCounts
import Derived.Test.YtmfngcnmacjbfaaDoorVerifyIncl
import Derived.Test.YtmfngcnmacjbfaaDoorDropOne
namespace Go.Proofs.YtmfngcnmacjbfaaDoor
open Go.ChangeShapes Go.WideShapes Go.ChangeAt Go.RowKit
set_option linter.unusedVariables false
theorem eq_zeroB (vz : Array Value) (h : hv zeroH = .agg vz) (w : World) : (Op.equalIn 10000 29 (.agg vz) (.agg #[.int .u8 0, .int .u8 0, .int .u8 0, .int .u8 0, .int .u8 0, .int .u8 0, .int .u8 0, .int .u8 0, .int .u8 0, .int .u8 0, .int .u8 0, .int .u8 0, .int .u8 0, .int .u8 0, .int .u8 0, .int .u8 0, .int .u8 0, .int .u8 0, .int .u8 0, .int .u8 0, .int .u8 0, .int .u8 0, .int .u8 0, .int .u8 0, .int .u8 0, .int .u8 0, .int .u8 0, .int .u8 0, .int .u8 0, .int .u8 0, .int .u8 0, .int .u8 0])).run Tryd.prog w = .ok true w := by
  rw [eq_hash zeroH zeroH zeroH_length zeroH_length vz _ h (by rw [zeroH_v]; rfl) w]; simp
theorem eq_selfC (p : List UInt8) (hp : p.length = 32) (vp : Array Value) (h : hv p = .agg vp) (w : World) : (Op.equalIn 10000 29 (.agg vp) (.agg vp)).run Tryd.prog w = .ok true w := by
  rw [eq_hash p p hp hp vp vp h h w]; simp

set_option maxRecDepth 100000 in
set_option maxHeartbeats 8000000 in
theorem proves_great (a : Nat → Addr) (B : Nat) (x sz ix : Int) (A1 A2 : Option Addr) (n1 k1 n2 k2 : Nat) (L P : List (List UInt8)) (w : World) (hE : Env B a w) (h1 : HIn w A1 n1 k1 L) (h2 : HIn w A2 n2 k2 P) (m1 : n1 ≤ 9000000000000000000) (m2 : n2 ≤ 9000000000000000000) (hx0 : 0 ≤ x) (hx1 : x < 18446744073709551616) (hs0 : 0 ≤ sz) (hs1 : sz < 18446744073709551616) (hi0 : 0 ≤ ix) (hi1 : ix < 18446744073709551616)
    (hg : 1048576 < n1 + n2) :
    Calls Tryd.prog 7 #[.int .u64 x, .int .u64 sz, .agg #[.slice A1 n1 k1, .slice A2 n2 k2, .int .u64 ix]] w fun ev w' => ev = .returned (.bool true) ∧ Below w.heap.size w w' := by
  have hgd : decide (1048576 < n1 + n2) = true := by simpa using hg
  have HE := Lib.hid hE
  have H1 := Lib.hid h1
  have H2 := Lib.hid h2
  have hwb : w.heap.size < (w.alloc (.cells #[.slice A1 n1 k1, .slice A2 n2 k2, .int .u64 ix] 25)).heap.size := by simp
  have c0 : (w.alloc (.cells #[.slice A1 n1 k1, .slice A2 n2 k2, .int .u64 ix] 25)).cell? ⟨w.heap.size, 0, none⟩ = some (.slice A1 n1 k1) := cell_new _ _ 0 _ rfl
  have c1 : (w.alloc (.cells #[.slice A1 n1 k1, .slice A2 n2 k2, .int .u64 ix] 25)).cell? ⟨w.heap.size, 1, none⟩ = some (.slice A2 n2 k2) := cell_new _ _ 1 _ rfl
  have c2 : (w.alloc (.cells #[.slice A1 n1 k1, .slice A2 n2 k2, .int .u64 ix] 25)).cell? ⟨w.heap.size, 2, none⟩ = some (.int .u64 ix) := cell_new _ _ 2 _ rfl
  have gb : Gr w (w.alloc (.cells #[.slice A1 n1 k1, .slice A2 n2 k2, .int .u64 ix] 25)) := (Gr.refl _).alloc _
  obtain ⟨wb, hwb'⟩ : ∃ wb, (w.alloc (.cells #[.slice A1 n1 k1, .slice A2 n2 k2, .int .u64 ix] 25)) = wb := ⟨_, rfl⟩
  rw [hwb'] at hwb c0 c1 c2 gb
  have gb : Below w.heap.size w wb := gb
  have HWB := Lib.hid hwb'
  have hbx : (Tryd.prog.info? 25).map (·.size) = some 3 := by kernel_rfl
  have HM := Lib.hid (And.intro m1 m2)
  clear hwb' hE h1 h2 m1 m2
  go_enter Tryd.func7, Tryd.ntmps7
  go_upto_region 1 with fail
  rw [HWB.out]
  go_wp2_with fail
  refine (alive19 a B wb (show Env B a wb from HE.out.step (show Gr w wb from (by repeat (first | exact Gr.refl _ | (refine Gr.step ?_ (by assumption)) | (refine Gr.alloc ?_ _) | (refine Gr.drew ?_)))))).mono ?_
  rintro ev w1 ⟨rfl, b1⟩
  have d0w1 := cell_below (show Gr wb w1 from (by repeat (first | exact Gr.refl _ | (refine Gr.step ?_ (by assumption)) | (refine Gr.alloc ?_ _) | (refine Gr.drew ?_)))) c0 hwb; have d1w1 := cell_below (show Gr wb w1 from (by repeat (first | exact Gr.refl _ | (refine Gr.step ?_ (by assumption)) | (refine Gr.alloc ?_ _) | (refine Gr.drew ?_)))) c1 hwb; have d2w1 := cell_below (show Gr wb w1 from (by repeat (first | exact Gr.refl _ | (refine Gr.step ?_ (by assumption)) | (refine Gr.alloc ?_ _) | (refine Gr.drew ?_)))) c2 hwb
  go_wp2_with fail
  refine (great_any A1 A2 n1 k1 n2 k2 ix w1 HM.out.1 HM.out.2).mono ?_
  rintro ev w2 ⟨rfl, b2⟩
  rw [hgd]
  have d0w2 := cell_below (show Gr wb w2 from (by repeat (first | exact Gr.refl _ | (refine Gr.step ?_ (by assumption)) | (refine Gr.alloc ?_ _) | (refine Gr.drew ?_)))) c0 hwb; have d1w2 := cell_below (show Gr wb w2 from (by repeat (first | exact Gr.refl _ | (refine Gr.step ?_ (by assumption)) | (refine Gr.alloc ?_ _) | (refine Gr.drew ?_)))) c1 hwb; have d2w2 := cell_below (show Gr wb w2 from (by repeat (first | exact Gr.refl _ | (refine Gr.step ?_ (by assumption)) | (refine Gr.alloc ?_ _) | (refine Gr.drew ?_)))) c2 hwb
  go_wp2_with fail
  refine (alive19 a B w2 (show Env B a w2 from HE.out.step (show Gr w w2 from (by repeat (first | exact Gr.refl _ | (refine Gr.step ?_ (by assumption)) | (refine Gr.alloc ?_ _) | (refine Gr.drew ?_)))))).mono ?_
  rintro ev w3 ⟨rfl, b3⟩
  go_wp2
  go_ret
  exact ⟨rfl, show Gr w _ from (by repeat (first | exact Gr.refl _ | (refine Gr.step ?_ (by assumption)) | (refine Gr.alloc ?_ _) | (refine Gr.drew ?_)))⟩

set_option maxRecDepth 100000 in
set_option maxHeartbeats 8000000 in
theorem proves_bad (a : Nat → Addr) (B : Nat) (x sz ix : Int) (A1 A2 : Option Addr) (n1 k1 n2 k2 : Nat) (L P : List (List UInt8)) (w : World) (hE : Env B a w) (h1 : HIn w A1 n1 k1 L) (h2 : HIn w A2 n2 k2 P) (m1 : n1 ≤ 9000000000000000000) (m2 : n2 ≤ 9000000000000000000) (hx0 : 0 ≤ x) (hx1 : x < 18446744073709551616) (hs0 : 0 ≤ sz) (hs1 : sz < 18446744073709551616) (hi0 : 0 ≤ ix) (hi1 : ix < 18446744073709551616)
    (hg : n1 + n2 ≤ 1048576) (k : Nat) (hk : batchK x sz n1 n2 = k) (hk0 : k ≠ 0) (hk16 : k ≤ 16) :
    Calls Tryd.prog 7 #[.int .u64 x, .int .u64 sz, .agg #[.slice A1 n1 k1, .slice A2 n2 k2, .int .u64 ix]] w fun ev w' => ev = .returned (.bool true) ∧ Below w.heap.size w w' := by
  have hgd : decide (1048576 < n1 + n2) = false := by simp; omega
  have HG := Lib.hid hg
  have HK := Lib.hid (And.intro hk (And.intro hk0 hk16))
  clear hg hk hk0 hk16
  have HE := Lib.hid hE
  have H1 := Lib.hid h1
  have H2 := Lib.hid h2
  have hwb : w.heap.size < (w.alloc (.cells #[.slice A1 n1 k1, .slice A2 n2 k2, .int .u64 ix] 25)).heap.size := by simp
  have c0 : (w.alloc (.cells #[.slice A1 n1 k1, .slice A2 n2 k2, .int .u64 ix] 25)).cell? ⟨w.heap.size, 0, none⟩ = some (.slice A1 n1 k1) := cell_new _ _ 0 _ rfl
  have c1 : (w.alloc (.cells #[.slice A1 n1 k1, .slice A2 n2 k2, .int .u64 ix] 25)).cell? ⟨w.heap.size, 1, none⟩ = some (.slice A2 n2 k2) := cell_new _ _ 1 _ rfl
  have c2 : (w.alloc (.cells #[.slice A1 n1 k1, .slice A2 n2 k2, .int .u64 ix] 25)).cell? ⟨w.heap.size, 2, none⟩ = some (.int .u64 ix) := cell_new _ _ 2 _ rfl
  have gb : Gr w (w.alloc (.cells #[.slice A1 n1 k1, .slice A2 n2 k2, .int .u64 ix] 25)) := (Gr.refl _).alloc _
  obtain ⟨wb, hwb'⟩ : ∃ wb, (w.alloc (.cells #[.slice A1 n1 k1, .slice A2 n2 k2, .int .u64 ix] 25)) = wb := ⟨_, rfl⟩
  rw [hwb'] at hwb c0 c1 c2 gb
  have gb : Below w.heap.size w wb := gb
  have HWB := Lib.hid hwb'
  have hbx : (Tryd.prog.info? 25).map (·.size) = some 3 := by kernel_rfl
  have HM := Lib.hid (And.intro m1 m2)
  clear hwb' hE h1 h2 m1 m2
  obtain ⟨vz, ez, Hz, Zvz, Ivz, Ovz⟩ := row_of zeroH zeroH_length
  have hqz := eq_zeroB vz ez
  have HEZ := Lib.hid ez
  clear ez
  go_enter Tryd.func7, Tryd.ntmps7
  go_upto_region 1 with fail
  rw [HWB.out]
  go_wp2_with fail
  refine (alive19 a B wb (show Env B a wb from HE.out.step (show Gr w wb from (by repeat (first | exact Gr.refl _ | (refine Gr.step ?_ (by assumption)) | (refine Gr.alloc ?_ _) | (refine Gr.drew ?_)))))).mono ?_
  rintro ev w1 ⟨rfl, b1⟩
  have d0w1 := cell_below (show Gr wb w1 from (by repeat (first | exact Gr.refl _ | (refine Gr.step ?_ (by assumption)) | (refine Gr.alloc ?_ _) | (refine Gr.drew ?_)))) c0 hwb; have d1w1 := cell_below (show Gr wb w1 from (by repeat (first | exact Gr.refl _ | (refine Gr.step ?_ (by assumption)) | (refine Gr.alloc ?_ _) | (refine Gr.drew ?_)))) c1 hwb; have d2w1 := cell_below (show Gr wb w1 from (by repeat (first | exact Gr.refl _ | (refine Gr.step ?_ (by assumption)) | (refine Gr.alloc ?_ _) | (refine Gr.drew ?_)))) c2 hwb
  go_wp2_with fail
  refine (great_any A1 A2 n1 k1 n2 k2 ix w1 HM.out.1 HM.out.2).mono ?_
  rintro ev w2 ⟨rfl, b2⟩
  rw [hgd]
  have d0w2 := cell_below (show Gr wb w2 from (by repeat (first | exact Gr.refl _ | (refine Gr.step ?_ (by assumption)) | (refine Gr.alloc ?_ _) | (refine Gr.drew ?_)))) c0 hwb; have d1w2 := cell_below (show Gr wb w2 from (by repeat (first | exact Gr.refl _ | (refine Gr.step ?_ (by assumption)) | (refine Gr.alloc ?_ _) | (refine Gr.drew ?_)))) c1 hwb; have d2w2 := cell_below (show Gr wb w2 from (by repeat (first | exact Gr.refl _ | (refine Gr.step ?_ (by assumption)) | (refine Gr.alloc ?_ _) | (refine Gr.drew ?_)))) c2 hwb
  go_wp2_with fail
  refine (root_bad a B x sz A1 A2 n1 n2 k1 k2 w2 (show Env B a w2 from HE.out.step (show Gr w w2 from (by repeat (first | exact Gr.refl _ | (refine Gr.step ?_ (by assumption)) | (refine Gr.alloc ?_ _) | (refine Gr.drew ?_))))) hx0 hx1 hs0 hs1 (by have := HG.out; omega) (by have := HG.out; omega) k HK.out.1 HK.out.2.1).mono ?_
  rw [HEZ.out]
  rintro ev w3 ⟨rfl, b3⟩
  have d0w3 := cell_below (show Gr wb w3 from (by repeat (first | exact Gr.refl _ | (refine Gr.step ?_ (by assumption)) | (refine Gr.alloc ?_ _) | (refine Gr.drew ?_)))) c0 hwb; have d1w3 := cell_below (show Gr wb w3 from (by repeat (first | exact Gr.refl _ | (refine Gr.step ?_ (by assumption)) | (refine Gr.alloc ?_ _) | (refine Gr.drew ?_)))) c1 hwb; have d2w3 := cell_below (show Gr wb w3 from (by repeat (first | exact Gr.refl _ | (refine Gr.step ?_ (by assumption)) | (refine Gr.alloc ?_ _) | (refine Gr.drew ?_)))) c2 hwb
  go_upto_region 4 with (refine wpList_store_row_any rfl 29 _ _ rfl w3.heap.size vz rfl rfl 29 _ (heap_at _ _ _ rfl) Ivz.out (by rw [Zvz.out]; rfl) Ovz.out ?_; intro w4 hbN hgN hsN; have b4 : Below w3.heap.size w3 w4 := ((Below.refl _ w3).alloc (Nat.le_refl _) _).trans (hbN.to_below (by simp) (fun k hk q => by omega)); have Rw4 := Lib.hid hgN; have d0w4 := cell_below (show Gr wb w4 from (by repeat (first | exact Gr.refl _ | (refine Gr.step ?_ (by assumption)) | (refine Gr.alloc ?_ _) | (refine Gr.drew ?_)))) c0 hwb; have d1w4 := cell_below (show Gr wb w4 from (by repeat (first | exact Gr.refl _ | (refine Gr.step ?_ (by assumption)) | (refine Gr.alloc ?_ _) | (refine Gr.drew ?_)))) c1 hwb; have d2w4 := cell_below (show Gr wb w4 from (by repeat (first | exact Gr.refl _ | (refine Gr.step ?_ (by assumption)) | (refine Gr.alloc ?_ _) | (refine Gr.drew ?_)))) c2 hwb; clear hbN hgN hsN)
  have KZ : Hid (∀ w', Gr w4 w' → w'.heap[w3.heap.size]? = some (.cells vz 29 (0, 0))) := Lib.hid (fun w' h => (h.block _ (Array.getElem?_eq_some_iff.1 Rw4.out).1).trans Rw4.out)
  go_wp2_with fail
  refine (bpath_bad a B x sz ix A1 A2 n1 n2 k1 k2 w4 (show Env B a w4 from HE.out.step (show Gr w w4 from (by repeat (first | exact Gr.refl _ | (refine Gr.step ?_ (by assumption)) | (refine Gr.alloc ?_ _) | (refine Gr.drew ?_))))) hx0 hx1 hs0 hs1 (by have := HG.out; omega) (by have := HG.out; omega) k HK.out.1 HK.out.2.1).mono ?_
  rintro ev w5 ⟨rfl, b5⟩
  have d0w5 := cell_below (show Gr wb w5 from (by repeat (first | exact Gr.refl _ | (refine Gr.step ?_ (by assumption)) | (refine Gr.alloc ?_ _) | (refine Gr.drew ?_)))) c0 hwb; have d1w5 := cell_below (show Gr wb w5 from (by repeat (first | exact Gr.refl _ | (refine Gr.step ?_ (by assumption)) | (refine Gr.alloc ?_ _) | (refine Gr.drew ?_)))) c1 hwb; have d2w5 := cell_below (show Gr wb w5 from (by repeat (first | exact Gr.refl _ | (refine Gr.step ?_ (by assumption)) | (refine Gr.alloc ?_ _) | (refine Gr.drew ?_)))) c2 hwb
  unfold errV
  go_wp2_with (refine wpList_load_row_g rfl 29 _ rfl _ rfl 29 vz (0, 0) _ (KZ.out w5 (show Gr w4 w5 from (by repeat (first | exact Gr.refl _ | (refine Gr.step ?_ (by assumption)) | (refine Gr.alloc ?_ _) | (refine Gr.drew ?_))))) Tryd.underlying29 rfl Ivz.out ?_)
  change Calls _ _ #[errV a k] _ _
  refine (code_sent a B k w5 (show Env B a w5 from HE.out.step (show Gr w w5 from (by repeat (first | exact Gr.refl _ | (refine Gr.step ?_ (by assumption)) | (refine Gr.alloc ?_ _) | (refine Gr.drew ?_))))).laid (by have := HK.out; omega) HK.out.2.2).mono ?_
  rintro ev w6 ⟨rfl, b6⟩
  go_wp2_with fail
  change Calls _ _ #[errV a k] _ _
  refine (code_sent a B k w6 (show Env B a w6 from HE.out.step (show Gr w w6 from (by repeat (first | exact Gr.refl _ | (refine Gr.step ?_ (by assumption)) | (refine Gr.alloc ?_ _) | (refine Gr.drew ?_))))).laid (by have := HK.out; omega) HK.out.2.2).mono ?_
  rintro ev w7 ⟨rfl, b7⟩
  go_wp2
  go_ret
  exact ⟨rfl, show Gr w _ from (by repeat (first | exact Gr.refl _ | (refine Gr.step ?_ (by assumption)) | (refine Gr.alloc ?_ _) | (refine Gr.drew ?_)))⟩

set_option maxRecDepth 100000 in
set_option maxHeartbeats 8000000 in
theorem proves_off (a : Nat → Addr) (B : Nat) (x sz ix : Int) (A1 A2 : Option Addr) (n1 k1 n2 k2 : Nat) (L P : List (List UInt8)) (w : World) (hE : Env B a w) (h1 : HIn w A1 n1 k1 L) (h2 : HIn w A2 n2 k2 P) (m1 : n1 ≤ 9000000000000000000) (m2 : n2 ≤ 9000000000000000000) (hx0 : 0 ≤ x) (hx1 : x < 18446744073709551616) (hs0 : 0 ≤ sz) (hs1 : sz < 18446744073709551616) (hi0 : 0 ≤ ix) (hi1 : ix < 18446744073709551616)
    (hg : n1 + n2 ≤ 1048576) (hk : batchK x sz n1 n2 = 0) (ho : ix < x ∨ (n1 : Int) ≤ ix - x) :
    Calls Tryd.prog 7 #[.int .u64 x, .int .u64 sz, .agg #[.slice A1 n1 k1, .slice A2 n2 k2, .int .u64 ix]] w fun ev w' => ev = .returned (.bool true) ∧ Below w.heap.size w w' := by
  have e1 := h1.2.1
  have e2 := h2.2.1
  subst e1 e2
  obtain ⟨rt, hrt⟩ : ∃ r, rootB x sz L P = r := ⟨_, rfl⟩
  have h3 : L.length ≠ 0 ∧ ¬ (9223372036854775808 < sz ∨ sz < x ∨ sz - x < L.length) ∧ (batchL 64 x (x + L.length) 0 sz).length = P.length := by
    unfold batchK at hk
    split at hk
    · cases hk
    · rename_i q0
      split at hk
      · cases hk
      · rename_i q3
        split at hk
        · cases hk
        · rename_i q4
          exact ⟨q0, q3, by omega⟩
  have HK3 := Lib.hid h3
  clear h3
  have HROOT : Hid (∀ w, Env B a w → HIn w A1 L.length k1 L → HIn w A2 P.length k2 P → Calls Tryd.prog 15 #[.int .u64 x, .int .u64 sz, .slice A1 L.length k1, .slice A2 P.length k2] w fun ev w' => ev = .returned (.tuple #[hv rt, .nilIface]) ∧ rt.length = 32 ∧ Below w.heap.size w w') := Lib.hid (fun w h i1 i2 => by
    have := root_ok a B x sz A1 A2 k1 k2 L P w h i1 i2 hx0 hx1 hs0 hs1 hk
    rw [hrt] at this; exact this)
  have hwn : IntKind.u64.wrap (L.length : Int) = L.length := IntWalk.u64_in _ (by omega)
  have HE := Lib.hid hE
  have H1 := Lib.hid h1
  have H2 := Lib.hid h2
  have hwb : w.heap.size < (w.alloc (.cells #[.slice A1 L.length k1, .slice A2 P.length k2, .int .u64 ix] 25)).heap.size := by simp
  have c0 : (w.alloc (.cells #[.slice A1 L.length k1, .slice A2 P.length k2, .int .u64 ix] 25)).cell? ⟨w.heap.size, 0, none⟩ = some (.slice A1 L.length k1) := cell_new _ _ 0 _ rfl
  have c1 : (w.alloc (.cells #[.slice A1 L.length k1, .slice A2 P.length k2, .int .u64 ix] 25)).cell? ⟨w.heap.size, 1, none⟩ = some (.slice A2 P.length k2) := cell_new _ _ 1 _ rfl
  have c2 : (w.alloc (.cells #[.slice A1 L.length k1, .slice A2 P.length k2, .int .u64 ix] 25)).cell? ⟨w.heap.size, 2, none⟩ = some (.int .u64 ix) := cell_new _ _ 2 _ rfl
  have gb : Gr w (w.alloc (.cells #[.slice A1 L.length k1, .slice A2 P.length k2, .int .u64 ix] 25)) := (Gr.refl _).alloc _
  obtain ⟨wb, hwb'⟩ : ∃ wb, (w.alloc (.cells #[.slice A1 L.length k1, .slice A2 P.length k2, .int .u64 ix] 25)) = wb := ⟨_, rfl⟩
  rw [hwb'] at hwb c0 c1 c2 gb
  have gb : Below w.heap.size w wb := gb
  have HWB := Lib.hid hwb'
  have hbx : (Tryd.prog.info? 25).map (·.size) = some 3 := by kernel_rfl
  have HM := Lib.hid (And.intro m1 m2)
  clear hwb' hE h1 h2 m1 m2
  have hgd : decide (1048576 < L.length + P.length) = false := by simp; omega
  have HG := Lib.hid hg
  have HO := Lib.hid ho
  have HBP := Lib.hid (fun w h => bpath_off a B x sz ix A1 A2 L.length P.length k1 k2 w h hx0 hx1 hs0 hs1 (by omega) (by omega) hk hi0 hi1 ho)
  have hln : (L.length : Int) < 18446744073709551616 := by omega
  clear hg hk ho
  go_enter Tryd.func7, Tryd.ntmps7
  go_upto_region 1 with fail
  rw [HWB.out]
  go_wp2_with fail
  refine (alive19 a B wb (show Env B a wb from HE.out.step (show Gr w wb from (by repeat (first | exact Gr.refl _ | (refine Gr.step ?_ (by assumption)) | (refine Gr.alloc ?_ _) | (refine Gr.drew ?_)))))).mono ?_
  rintro ev w1 ⟨rfl, b1⟩
  have d0w1 := cell_below (show Gr wb w1 from (by repeat (first | exact Gr.refl _ | (refine Gr.step ?_ (by assumption)) | (refine Gr.alloc ?_ _) | (refine Gr.drew ?_)))) c0 hwb; have d1w1 := cell_below (show Gr wb w1 from (by repeat (first | exact Gr.refl _ | (refine Gr.step ?_ (by assumption)) | (refine Gr.alloc ?_ _) | (refine Gr.drew ?_)))) c1 hwb; have d2w1 := cell_below (show Gr wb w1 from (by repeat (first | exact Gr.refl _ | (refine Gr.step ?_ (by assumption)) | (refine Gr.alloc ?_ _) | (refine Gr.drew ?_)))) c2 hwb
  go_wp2_with fail
  refine (great_any A1 A2 L.length k1 P.length k2 ix w1 HM.out.1 HM.out.2).mono ?_
  rintro ev w2 ⟨rfl, b2⟩
  rw [hgd]
  have d0w2 := cell_below (show Gr wb w2 from (by repeat (first | exact Gr.refl _ | (refine Gr.step ?_ (by assumption)) | (refine Gr.alloc ?_ _) | (refine Gr.drew ?_)))) c0 hwb; have d1w2 := cell_below (show Gr wb w2 from (by repeat (first | exact Gr.refl _ | (refine Gr.step ?_ (by assumption)) | (refine Gr.alloc ?_ _) | (refine Gr.drew ?_)))) c1 hwb; have d2w2 := cell_below (show Gr wb w2 from (by repeat (first | exact Gr.refl _ | (refine Gr.step ?_ (by assumption)) | (refine Gr.alloc ?_ _) | (refine Gr.drew ?_)))) c2 hwb
  go_wp2_with fail
  refine (HROOT.out w2 (show Env B a w2 from HE.out.step (show Gr w w2 from (by repeat (first | exact Gr.refl _ | (refine Gr.step ?_ (by assumption)) | (refine Gr.alloc ?_ _) | (refine Gr.drew ?_))))) (H1.out.below (show Gr w w2 from (by repeat (first | exact Gr.refl _ | (refine Gr.step ?_ (by assumption)) | (refine Gr.alloc ?_ _) | (refine Gr.drew ?_))))) (H2.out.below (show Gr w w2 from (by repeat (first | exact Gr.refl _ | (refine Gr.step ?_ (by assumption)) | (refine Gr.alloc ?_ _) | (refine Gr.drew ?_)))))).mono ?_
  rintro ev w3 ⟨rfl, hrl, b3⟩
  obtain ⟨vr, er, Hr, Zvr, Ivr, Ovr⟩ := row_of rt hrl
  have HER := Lib.hid (And.intro er hrl)
  rw [er]
  clear er hrl
  have d0w3 := cell_below (show Gr wb w3 from (by repeat (first | exact Gr.refl _ | (refine Gr.step ?_ (by assumption)) | (refine Gr.alloc ?_ _) | (refine Gr.drew ?_)))) c0 hwb; have d1w3 := cell_below (show Gr wb w3 from (by repeat (first | exact Gr.refl _ | (refine Gr.step ?_ (by assumption)) | (refine Gr.alloc ?_ _) | (refine Gr.drew ?_)))) c1 hwb; have d2w3 := cell_below (show Gr wb w3 from (by repeat (first | exact Gr.refl _ | (refine Gr.step ?_ (by assumption)) | (refine Gr.alloc ?_ _) | (refine Gr.drew ?_)))) c2 hwb
  go_upto_region 4 with (refine wpList_store_row_any rfl 29 _ _ rfl w3.heap.size vr rfl rfl 29 _ (heap_at _ _ _ rfl) Ivr.out (by rw [Zvr.out]; rfl) Ovr.out ?_; intro w4 hbN hgN hsN; have b4 : Below w3.heap.size w3 w4 := ((Below.refl _ w3).alloc (Nat.le_refl _) _).trans (hbN.to_below (by simp) (fun k hk q => by omega)); have Rw4 := Lib.hid hgN; have d0w4 := cell_below (show Gr wb w4 from (by repeat (first | exact Gr.refl _ | (refine Gr.step ?_ (by assumption)) | (refine Gr.alloc ?_ _) | (refine Gr.drew ?_)))) c0 hwb; have d1w4 := cell_below (show Gr wb w4 from (by repeat (first | exact Gr.refl _ | (refine Gr.step ?_ (by assumption)) | (refine Gr.alloc ?_ _) | (refine Gr.drew ?_)))) c1 hwb; have d2w4 := cell_below (show Gr wb w4 from (by repeat (first | exact Gr.refl _ | (refine Gr.step ?_ (by assumption)) | (refine Gr.alloc ?_ _) | (refine Gr.drew ?_)))) c2 hwb; clear hbN hgN hsN)
  have KR : Hid (∀ w', Gr w4 w' → w'.heap[w3.heap.size]? = some (.cells vr 29 (0, 0))) := Lib.hid (fun w' h => (h.block _ (Array.getElem?_eq_some_iff.1 Rw4.out).1).trans Rw4.out)
  go_wp2_with fail
  refine (HBP.out w4 (show Env B a w4 from HE.out.step (show Gr w w4 from (by repeat (first | exact Gr.refl _ | (refine Gr.step ?_ (by assumption)) | (refine Gr.alloc ?_ _) | (refine Gr.drew ?_)))))).mono ?_
  rintro ev w5 ⟨rfl, b5⟩
  have d0w5 := cell_below (show Gr wb w5 from (by repeat (first | exact Gr.refl _ | (refine Gr.step ?_ (by assumption)) | (refine Gr.alloc ?_ _) | (refine Gr.drew ?_)))) c0 hwb; have d1w5 := cell_below (show Gr wb w5 from (by repeat (first | exact Gr.refl _ | (refine Gr.step ?_ (by assumption)) | (refine Gr.alloc ?_ _) | (refine Gr.drew ?_)))) c1 hwb; have d2w5 := cell_below (show Gr wb w5 from (by repeat (first | exact Gr.refl _ | (refine Gr.step ?_ (by assumption)) | (refine Gr.alloc ?_ _) | (refine Gr.drew ?_)))) c2 hwb
  unfold errV
  by_cases h1 : ix < x
  all_goals
    (try (have h2 : x ≤ ix := by omega))
    (try (have h3 : (L.length : Int) ≤ ix - x := by have := HO.out; omega))
    go_wp2_with fail
    change Calls _ _ #[errV a 5, _] _ _
    refine (is_sent a B 5 w5 (show Env B a w5 from HE.out.step (show Gr w w5 from (by repeat (first | exact Gr.refl _ | (refine Gr.step ?_ (by assumption)) | (refine Gr.alloc ?_ _) | (refine Gr.drew ?_))))).laid (by omega) (by omega)).mono ?_
    rintro ev w6 ⟨rfl, b6⟩
    go_wp2
    go_ret
    exact ⟨rfl, show Gr w _ from (by repeat (first | exact Gr.refl _ | (refine Gr.step ?_ (by assumption)) | (refine Gr.alloc ?_ _) | (refine Gr.drew ?_)))⟩

set_option maxRecDepth 100000 in
set_option maxHeartbeats 8000000 in
theorem proves_many (a : Nat → Addr) (B : Nat) (x sz ix : Int) (A1 A2 : Option Addr) (n1 k1 n2 k2 : Nat) (L P : List (List UInt8)) (w : World) (hE : Env B a w) (h1 : HIn w A1 n1 k1 L) (h2 : HIn w A2 n2 k2 P) (m1 : n1 ≤ 9000000000000000000) (m2 : n2 ≤ 9000000000000000000) (hx0 : 0 ≤ x) (hx1 : x < 18446744073709551616) (hs0 : 0 ≤ sz) (hs1 : sz < 18446744073709551616) (hi0 : 0 ≤ ix) (hi1 : ix < 18446744073709551616)
    (hg : n1 + n2 ≤ 1048576) (hk : batchK x sz n1 n2 = 0) (ho : x ≤ ix ∧ ix - x < (n1 : Int)) (hn1 : 1 < n1) :
    Calls Tryd.prog 7 #[.int .u64 x, .int .u64 sz, .agg #[.slice A1 n1 k1, .slice A2 n2 k2, .int .u64 ix]] w fun ev w' => ev = .returned (.bool true) ∧ Below w.heap.size w w' := by
  have e1 := h1.2.1
  have e2 := h2.2.1
  subst e1 e2
  obtain ⟨rt, hrt⟩ : ∃ r, rootB x sz L P = r := ⟨_, rfl⟩
  have h3 : L.length ≠ 0 ∧ ¬ (9223372036854775808 < sz ∨ sz < x ∨ sz - x < L.length) ∧ (batchL 64 x (x + L.length) 0 sz).length = P.length := by
    unfold batchK at hk
    split at hk
    · cases hk
    · rename_i q0
      split at hk
      · cases hk
      · rename_i q3
        split at hk
        · cases hk
        · rename_i q4
          exact ⟨q0, q3, by omega⟩
  have HK3 := Lib.hid h3
  clear h3
  have HROOT : Hid (∀ w, Env B a w → HIn w A1 L.length k1 L → HIn w A2 P.length k2 P → Calls Tryd.prog 15 #[.int .u64 x, .int .u64 sz, .slice A1 L.length k1, .slice A2 P.length k2] w fun ev w' => ev = .returned (.tuple #[hv rt, .nilIface]) ∧ rt.length = 32 ∧ Below w.heap.size w w') := Lib.hid (fun w h i1 i2 => by
    have := root_ok a B x sz A1 A2 k1 k2 L P w h i1 i2 hx0 hx1 hs0 hs1 hk
    rw [hrt] at this; exact this)
  have hwn : IntKind.u64.wrap (L.length : Int) = L.length := IntWalk.u64_in _ (by omega)
  have HE := Lib.hid hE
  have H1 := Lib.hid h1
  have H2 := Lib.hid h2
  have hwb : w.heap.size < (w.alloc (.cells #[.slice A1 L.length k1, .slice A2 P.length k2, .int .u64 ix] 25)).heap.size := by simp
  have c0 : (w.alloc (.cells #[.slice A1 L.length k1, .slice A2 P.length k2, .int .u64 ix] 25)).cell? ⟨w.heap.size, 0, none⟩ = some (.slice A1 L.length k1) := cell_new _ _ 0 _ rfl
  have c1 : (w.alloc (.cells #[.slice A1 L.length k1, .slice A2 P.length k2, .int .u64 ix] 25)).cell? ⟨w.heap.size, 1, none⟩ = some (.slice A2 P.length k2) := cell_new _ _ 1 _ rfl
  have c2 : (w.alloc (.cells #[.slice A1 L.length k1, .slice A2 P.length k2, .int .u64 ix] 25)).cell? ⟨w.heap.size, 2, none⟩ = some (.int .u64 ix) := cell_new _ _ 2 _ rfl
  have gb : Gr w (w.alloc (.cells #[.slice A1 L.length k1, .slice A2 P.length k2, .int .u64 ix] 25)) := (Gr.refl _).alloc _
  obtain ⟨wb, hwb'⟩ : ∃ wb, (w.alloc (.cells #[.slice A1 L.length k1, .slice A2 P.length k2, .int .u64 ix] 25)) = wb := ⟨_, rfl⟩
  rw [hwb'] at hwb c0 c1 c2 gb
  have gb : Below w.heap.size w wb := gb
  have HWB := Lib.hid hwb'
  have hbx : (Tryd.prog.info? 25).map (·.size) = some 3 := by kernel_rfl
  have HM := Lib.hid (And.intro m1 m2)
  clear hwb' hE h1 h2 m1 m2
  have hgd : decide (1048576 < L.length + P.length) = false := by simp; omega
  have HG := Lib.hid hg
  obtain ⟨lk, hlk⟩ : ∃ k : Nat, ix - x = k := ⟨(ix - x).toNat, by omega⟩
  obtain ⟨lf, hlf⟩ : ∃ p, L[lk]? = some p := ⟨_, List.getElem?_eq_getElem (by omega)⟩
  obtain ⟨pth, hpth⟩ : ∃ p, pathB x sz L P ix = p := ⟨_, rfl⟩
  obtain ⟨pn, hpn⟩ : ∃ n, pth.length = n := ⟨_, rfl⟩
  have hpn64 : pn ≤ 64 := by rw [← hpn, ← hpth]; exact pathB_len x sz L P ix
  have HPN := Lib.hid hpn
  have HBP := Lib.hid (fun w h i1 i2 => bpath_ok a B x sz ix A1 A2 k1 k2 L P w h i1 i2 hx0 hx1 hs0 hs1 hk ho.1 ho.2)
  rw [hpth] at HBP
  have hll := H1.out.1.at hlf
  obtain ⟨vl, evl, Hvl, Zvl, Ivl, Ovl⟩ := row_of lf hll
  have hszx : x + L.length ≤ sz ∧ sz ≤ 9223372036854775808 := by have := HK3.out.2.1; omega
  have hla : leafAt x L ix = lf := by unfold leafAt; rw [List.getD_eq_getElem?_getD, hlk, Int.toNat_natCast, hlf]; rfl
  have hsay : Says nodeH ix.toNat (sz.toNat - 1) lf pth rt := by
    refine ⟨64, by omega, ?_⟩
    have := bot_pathF nodeH 64 x (x + L.length) (leafAt x L) ix 0 sz P (by omega) (by omega) ho.1 (by omega) (by rw [pow2_64]; omega) (by omega)
    rw [show sz.toNat - 1 + 1 = (sz - 0).toNat by omega, ← hla, ← hpth, ← hrt, show ix.toNat = (ix - 0).toNat by omega]
    exact this
  have HVR0 : Hid (∀ (vr : Array Value), hv rt = .agg vr → ∀ (Ap : Option Addr) cp w, Env B a w → HIn w Ap pn cp pth → Calls Tryd.prog 47 #[.int .u64 ix, .int .u64 sz, .agg vl, .slice Ap pn cp] w fun ev w' => ev = .returned (.tuple #[.agg vr, .nilIface]) ∧ Below w.heap.size w w') := Lib.hid (fun vr ev Ap cp w h1 h2 => by
    have := vroot_ok a B ix.toNat sz.toNat lf pth rt Ap pn cp w h1 hll h2 (by omega) (by omega) hsay (by omega)
    rw [evl, ev, show ((ix.toNat : Nat) : Int) = ix by omega, show ((sz.toNat : Nat) : Int) = sz by omega] at this
    exact this.mono (fun _ _ q => ⟨q.1, q.2.2⟩))
  have HVF0 : Hid (∀ (vr : Array Value), hv rt = .agg vr → rt.length = 32 → ∀ w, Env B a w → HIn w A1 L.length k1 L → HIn w A2 P.length k2 P → Calls Tryd.prog 16 #[.int .u64 x, .int .u64 sz, .slice A1 L.length k1, .slice A2 P.length k2, .agg vr] w fun ev w' => ev = .returned .nilIface ∧ Below w.heap.size w w') := Lib.hid (fun vr ev hl w h i1 i2 => by
    have := verify_ok a B x sz A1 A2 k1 k2 L P rt hl w h i1 i2 hx0 hx1 hs0 hs1 hk
    rw [hrt, if_pos rfl, ev] at this; exact this)
  have hln : (L.length : Int) < 18446744073709551616 := by omega
  have o1 := ho.1
  have o2 := ho.2
  have HLK := Lib.hid hlk
  have lk0 : (0 : Int) ≤ lk := by omega
  have lk1 : (lk : Int) < L.length := by omega
  have hwk : IntKind.u64.wrap (lk : Int) = lk := IntWalk.u64_in _ (by omega)
  have hi5 : decide (ix < x) = false := by simp; omega
  have hi6 : decide (L.length ≤ lk) = false := by simp; omega
  have hi7 : decide ((L.length : Int) ≤ (lk : Int)) = false := by simp; omega
  have lkn : lk < L.length := by omega
  have HLF := Lib.hid (And.intro hlf hll)
  have hn1i : decide ((1 : Int) < L.length) = true := by simp; omega
  clear hg hk ho hpth hpn hla hsay evl hlf hll
  go_enter Tryd.func7, Tryd.ntmps7
  go_upto_region 1 with fail
  rw [HWB.out]
  go_wp2_with fail
  refine (alive19 a B wb (show Env B a wb from HE.out.step (show Gr w wb from (by repeat (first | exact Gr.refl _ | (refine Gr.step ?_ (by assumption)) | (refine Gr.alloc ?_ _) | (refine Gr.drew ?_)))))).mono ?_
  rintro ev w1 ⟨rfl, b1⟩
  have d0w1 := cell_below (show Gr wb w1 from (by repeat (first | exact Gr.refl _ | (refine Gr.step ?_ (by assumption)) | (refine Gr.alloc ?_ _) | (refine Gr.drew ?_)))) c0 hwb; have d1w1 := cell_below (show Gr wb w1 from (by repeat (first | exact Gr.refl _ | (refine Gr.step ?_ (by assumption)) | (refine Gr.alloc ?_ _) | (refine Gr.drew ?_)))) c1 hwb; have d2w1 := cell_below (show Gr wb w1 from (by repeat (first | exact Gr.refl _ | (refine Gr.step ?_ (by assumption)) | (refine Gr.alloc ?_ _) | (refine Gr.drew ?_)))) c2 hwb
  go_wp2_with fail
  refine (great_any A1 A2 L.length k1 P.length k2 ix w1 HM.out.1 HM.out.2).mono ?_
  rintro ev w2 ⟨rfl, b2⟩
  rw [hgd]
  have d0w2 := cell_below (show Gr wb w2 from (by repeat (first | exact Gr.refl _ | (refine Gr.step ?_ (by assumption)) | (refine Gr.alloc ?_ _) | (refine Gr.drew ?_)))) c0 hwb; have d1w2 := cell_below (show Gr wb w2 from (by repeat (first | exact Gr.refl _ | (refine Gr.step ?_ (by assumption)) | (refine Gr.alloc ?_ _) | (refine Gr.drew ?_)))) c1 hwb; have d2w2 := cell_below (show Gr wb w2 from (by repeat (first | exact Gr.refl _ | (refine Gr.step ?_ (by assumption)) | (refine Gr.alloc ?_ _) | (refine Gr.drew ?_)))) c2 hwb
  go_wp2_with fail
  refine (HROOT.out w2 (show Env B a w2 from HE.out.step (show Gr w w2 from (by repeat (first | exact Gr.refl _ | (refine Gr.step ?_ (by assumption)) | (refine Gr.alloc ?_ _) | (refine Gr.drew ?_))))) (H1.out.below (show Gr w w2 from (by repeat (first | exact Gr.refl _ | (refine Gr.step ?_ (by assumption)) | (refine Gr.alloc ?_ _) | (refine Gr.drew ?_))))) (H2.out.below (show Gr w w2 from (by repeat (first | exact Gr.refl _ | (refine Gr.step ?_ (by assumption)) | (refine Gr.alloc ?_ _) | (refine Gr.drew ?_)))))).mono ?_
  rintro ev w3 ⟨rfl, hrl, b3⟩
  obtain ⟨vr, er, Hr, Zvr, Ivr, Ovr⟩ := row_of rt hrl
  have HER := Lib.hid (And.intro er hrl)
  rw [er]
  clear er hrl
  have d0w3 := cell_below (show Gr wb w3 from (by repeat (first | exact Gr.refl _ | (refine Gr.step ?_ (by assumption)) | (refine Gr.alloc ?_ _) | (refine Gr.drew ?_)))) c0 hwb; have d1w3 := cell_below (show Gr wb w3 from (by repeat (first | exact Gr.refl _ | (refine Gr.step ?_ (by assumption)) | (refine Gr.alloc ?_ _) | (refine Gr.drew ?_)))) c1 hwb; have d2w3 := cell_below (show Gr wb w3 from (by repeat (first | exact Gr.refl _ | (refine Gr.step ?_ (by assumption)) | (refine Gr.alloc ?_ _) | (refine Gr.drew ?_)))) c2 hwb
  go_upto_region 4 with (refine wpList_store_row_any rfl 29 _ _ rfl w3.heap.size vr rfl rfl 29 _ (heap_at _ _ _ rfl) Ivr.out (by rw [Zvr.out]; rfl) Ovr.out ?_; intro w4 hbN hgN hsN; have b4 : Below w3.heap.size w3 w4 := ((Below.refl _ w3).alloc (Nat.le_refl _) _).trans (hbN.to_below (by simp) (fun k hk q => by omega)); have Rw4 := Lib.hid hgN; have d0w4 := cell_below (show Gr wb w4 from (by repeat (first | exact Gr.refl _ | (refine Gr.step ?_ (by assumption)) | (refine Gr.alloc ?_ _) | (refine Gr.drew ?_)))) c0 hwb; have d1w4 := cell_below (show Gr wb w4 from (by repeat (first | exact Gr.refl _ | (refine Gr.step ?_ (by assumption)) | (refine Gr.alloc ?_ _) | (refine Gr.drew ?_)))) c1 hwb; have d2w4 := cell_below (show Gr wb w4 from (by repeat (first | exact Gr.refl _ | (refine Gr.step ?_ (by assumption)) | (refine Gr.alloc ?_ _) | (refine Gr.drew ?_)))) c2 hwb; clear hbN hgN hsN)
  have KR : Hid (∀ w', Gr w4 w' → w'.heap[w3.heap.size]? = some (.cells vr 29 (0, 0))) := Lib.hid (fun w' h => (h.block _ (Array.getElem?_eq_some_iff.1 Rw4.out).1).trans Rw4.out)
  have HVR := Lib.hid (HVR0.out vr HER.out.1)
  have HVF := Lib.hid (HVF0.out vr HER.out.1 HER.out.2)
  have hqr := eq_selfC rt HER.out.2 vr HER.out.1
  go_wp2_with fail
  refine (HBP.out w4 (show Env B a w4 from HE.out.step (show Gr w w4 from (by repeat (first | exact Gr.refl _ | (refine Gr.step ?_ (by assumption)) | (refine Gr.alloc ?_ _) | (refine Gr.drew ?_))))) (H1.out.below (show Gr w w4 from (by repeat (first | exact Gr.refl _ | (refine Gr.step ?_ (by assumption)) | (refine Gr.alloc ?_ _) | (refine Gr.drew ?_))))) (H2.out.below (show Gr w w4 from (by repeat (first | exact Gr.refl _ | (refine Gr.step ?_ (by assumption)) | (refine Gr.alloc ?_ _) | (refine Gr.drew ?_)))))).mono ?_
  rintro ev w5 ⟨h32p, vp, rfl, ownp, b5⟩
  rw [HPN.out] at ownp
  obtain ⟨Ap, cp, rfl, hcp⟩ := own_shape ownp
  have YP := Lib.hid (own_hin ownp h32p HPN.out)
  have HVR := Lib.hid (HVR.out Ap cp)
  clear h32p ownp
  have d0w5 := cell_below (show Gr wb w5 from (by repeat (first | exact Gr.refl _ | (refine Gr.step ?_ (by assumption)) | (refine Gr.alloc ?_ _) | (refine Gr.drew ?_)))) c0 hwb; have d1w5 := cell_below (show Gr wb w5 from (by repeat (first | exact Gr.refl _ | (refine Gr.step ?_ (by assumption)) | (refine Gr.alloc ?_ _) | (refine Gr.drew ?_)))) c1 hwb; have d2w5 := cell_below (show Gr wb w5 from (by repeat (first | exact Gr.refl _ | (refine Gr.step ?_ (by assumption)) | (refine Gr.alloc ?_ _) | (refine Gr.drew ?_)))) c2 hwb
  have Z5 := Lib.hid (H1.out.below (show Gr w w5 from (by repeat (first | exact Gr.refl _ | (refine Gr.step ?_ (by assumption)) | (refine Gr.alloc ?_ _) | (refine Gr.drew ?_)))))
  go_upto_region 9 with fail
  obtain ⟨g, o, rfl, gl, rl, _⟩ := Z5.out.row HLF.out.1
  obtain ⟨pl, hpl⟩ : ∃ p, bytesV lf = p := ⟨_, rfl⟩
  have HPL : Hid (pl.toArray = vl) := Lib.hid (by rw [← hpl]; exact Hvl.out)
  have IL : Hid ((Tryd.prog.info? 29).map (·.size) = some pl.length) := Lib.hid (by rw [← hpl, bytesV_length, HLF.out.2]; kernel_rfl)
  rw [hpl] at rl
  have KL : Hid (∀ w', Gr w5 w' → w'.rangeAt g (o + lk * 32) pl) := Lib.hid (fun w' h => rangeAt_below h rl gl)
  have VL : Hid (Value.agg pl.toArray = .agg vl) := Lib.hid (by rw [HPL.out])
  have HVR : Hid (∀ w, Env B a w → HIn w Ap pn cp pth → Calls Tryd.prog 47 #[.int .u64 ix, .int .u64 sz, .agg pl.toArray, .slice Ap pn cp] w fun ev w' => ev = .returned (.tuple #[.agg vr, .nilIface]) ∧ Below w.heap.size w w') := Lib.hid (by rw [HPL.out]; exact HVR.out)
  clear hpl rl gl
  have hb5 : w.heap.size < w5.heap.size := by have := (show Gr wb w5 from (by repeat (first | exact Gr.refl _ | (refine Gr.step ?_ (by assumption)) | (refine Gr.alloc ?_ _) | (refine Gr.drew ?_)))).size; omega
  have KC0 := Lib.hid (fun w' (h : Gr w5 w') => cell_below h d0w5 hb5)
  have KC2 := Lib.hid (fun w' (h : Gr w5 w') => cell_below h d2w5 hb5)
  refine wp_region_held_drew (S := Gr w5) (by kernel_rfl) ((Gr.refl _).drew) (fun hHeld => ?_)
  refine wpAnyH_take (i := 0) (v := ?tv1) rfl (by kernel_rfl) (by kernel_rfl) (by kernel_rfl) (fun _ _ _ h => h) (Or.inl ⟨by rfl, ?ty1⟩) (by assumption) ?tr1
  case ty1 => (intro w hSw; (try dsimp only at hSw); go_simp; (try with_reducible rfl))
  try simp only [Act.put, List.getElem_toArray, List.getElem_cons_zero, List.setIfInBounds_toArray, List.set_cons_zero, List.set_cons_succ]
  refine wpAnyH_take (i := 1) (v := ?tv2) rfl (by kernel_rfl) (by kernel_rfl) (by kernel_rfl) (fun _ _ _ h => h) (Or.inl ⟨by rfl, ?ty2⟩) (by assumption) ?tr2
  case ty2 => (intro w hSw; (try dsimp only at hSw); have eC := KC2.out w hSw; go_simp; (try with_reducible rfl))
  try simp only [Act.put, List.getElem_toArray, List.getElem_cons_zero, List.getElem_cons_succ, List.setIfInBounds_toArray, List.set_cons_zero, List.set_cons_succ]
  refine wpAnyH_take (i := 2) (v := ?tv3) rfl (by kernel_rfl) (by kernel_rfl) (by kernel_rfl) (fun _ _ _ h => h) (Or.inl ⟨by rfl, ?ty3⟩) (by assumption) ?tr3
  case ty3 => (intro w hSw; (try dsimp only at hSw); go_simp; (try with_reducible rfl))
  try simp only [Act.put, List.getElem_toArray, List.getElem_cons_zero, List.getElem_cons_succ, List.setIfInBounds_toArray, List.set_cons_zero, List.set_cons_succ]
  refine wpAnyH_take (i := 3) (v := ?tv4) rfl (by kernel_rfl) (by kernel_rfl) (by kernel_rfl) (fun _ _ _ h => h) (Or.inl ⟨by rfl, ?ty4⟩) (by assumption) ?tr4
  case ty4 => (intro w hSw; (try dsimp only at hSw); go_simp; (try with_reducible rfl))
  try simp only [Act.put, List.getElem_toArray, List.getElem_cons_zero, List.getElem_cons_succ, List.setIfInBounds_toArray, List.set_cons_zero, List.set_cons_succ]
  refine wpAnyH_take (i := 4) (v := ?tv5) rfl (by kernel_rfl) (by kernel_rfl) (by kernel_rfl) (fun _ _ _ h => h) (Or.inl ⟨by rfl, ?ty5⟩) (by assumption) ?tr5
  case ty5 => (intro w hSw; (try dsimp only at hSw); have eC := KC0.out w hSw; go_simp; (try with_reducible rfl))
  try simp only [Act.put, List.getElem_toArray, List.getElem_cons_zero, List.getElem_cons_succ, List.setIfInBounds_toArray, List.set_cons_zero, List.set_cons_succ]
  refine wpAnyH_take (i := 5) (v := ?tv6) rfl (by kernel_rfl) (by kernel_rfl) (by kernel_rfl) (fun _ _ _ h => h) (Or.inl ⟨by rfl, ?ty6⟩) (by assumption) ?tr6
  case ty6 => (intro w hSw; (try dsimp only at hSw); go_simp; (try with_reducible rfl))
  try simp only [Act.put, List.getElem_toArray, List.getElem_cons_zero, List.getElem_cons_succ, List.setIfInBounds_toArray, List.set_cons_zero, List.set_cons_succ]
  refine wpAnyH_take (i := 6) (v := ?tv7) rfl (by kernel_rfl) (by kernel_rfl) (by kernel_rfl) (fun _ _ _ h => h) (Or.inl ⟨by rfl, ?ty7⟩) (by assumption) ?tr7
  case ty7 => (intro w hSw; (try dsimp only at hSw); have eC := KC2.out w hSw; go_simp; (try with_reducible rfl))
  try simp only [Act.put, List.getElem_toArray, List.getElem_cons_zero, List.getElem_cons_succ, List.setIfInBounds_toArray, List.set_cons_zero, List.set_cons_succ]
  refine wpAnyH_take (i := 7) (v := ?tv8) rfl (by kernel_rfl) (by kernel_rfl) (by kernel_rfl) (fun _ _ _ h => h) (Or.inl ⟨by rfl, ?ty8⟩) (by assumption) ?tr8
  case ty8 => (intro w hSw; (try dsimp only at hSw); go_simp; (try with_reducible rfl))
  try simp only [Act.put, List.getElem_toArray, List.getElem_cons_zero, List.getElem_cons_succ, List.setIfInBounds_toArray, List.set_cons_zero, List.set_cons_succ]
  refine wpAnyH_take (i := 8) (v := ?tv9) rfl (by kernel_rfl) (by kernel_rfl) (by kernel_rfl) (fun _ _ _ h => h) (Or.inl ⟨by rfl, ?ty9⟩) (by assumption) ?tr9
  case ty9 => (intro w hSw; (try dsimp only at hSw); go_simp; (try with_reducible rfl))
  try simp only [Act.put, List.getElem_toArray, List.getElem_cons_zero, List.getElem_cons_succ, List.setIfInBounds_toArray, List.set_cons_zero, List.set_cons_succ]
  refine wpAnyH_take (i := 9) (v := ?tv10) rfl (by kernel_rfl) (by kernel_rfl) (by kernel_rfl) (fun _ _ _ h => h) (Or.inl ⟨by rfl, ?ty10⟩) (by assumption) ?tr10
  case ty10 => (intro w hSw; (try dsimp only at hSw); go_simp; (try with_reducible rfl))
  try simp only [Act.put, List.getElem_toArray, List.getElem_cons_zero, List.getElem_cons_succ, List.setIfInBounds_toArray, List.set_cons_zero, List.set_cons_succ]
  refine wpAnyH_take (i := 10) (v := _) rfl (by kernel_rfl) (by kernel_rfl) (by kernel_rfl) (fun _ _ _ h => h) (yieldsIf_load_mid (by rfl) 29 _ (by rfl) g (o + lk * 32) (by first | rfl | simp [HLK.out]) pl _ (fun w h => KL.out w h) Tryd.underlying29 (by rfl) IL.out) (by assumption) ?_
  try simp only [Act.put, List.getElem_toArray, List.getElem_cons_zero, List.getElem_cons_succ, List.setIfInBounds_toArray, List.set_cons_zero, List.set_cons_succ]
  refine wpAnyH_take (i := 11) (v := ?tv12) rfl (by kernel_rfl) (by kernel_rfl) (by kernel_rfl) (fun _ _ _ h => h) (Or.inl ⟨by rfl, ?ty12⟩) (by assumption) ?tr12
  case ty12 => (intro w hSw; (try dsimp only at hSw); go_simp; (try with_reducible rfl))
  try simp only [Act.put, List.getElem_toArray, List.getElem_cons_zero, List.getElem_cons_succ, List.setIfInBounds_toArray, List.set_cons_zero, List.set_cons_succ]
  refine wpAnyH_ready (rs := [12, 16]) (by kernel_rfl) (by simp) ?_
  refine AllReadyH.cons (i := 12) rfl (fun K2 hK2 => ?_) ?more13
  · skip
    go_simp
    go_at_call 47
    refine (HVR.out w5.drew (show Env B a w5.drew from HE.out.step (show Gr w w5.drew from (by repeat (first | exact Gr.refl _ | (refine Gr.step ?_ (by assumption)) | (refine Gr.alloc ?_ _) | (refine Gr.drew ?_))))) (YP.out.below (show Gr w5 w5.drew from (by repeat (first | exact Gr.refl _ | (refine Gr.step ?_ (by assumption)) | (refine Gr.alloc ?_ _) | (refine Gr.drew ?_)))))).mono ?_
    rintro ev w101 ⟨rfl, b101⟩
    try go_wp2_with fail
    refine hK2.out _ _ (show Gr w5 _ from (by repeat (first | exact Gr.refl _ | (refine Gr.step ?_ (by assumption)) | (refine Gr.alloc ?_ _) | (refine Gr.drew ?_)))) (fun hHeld2 => ?_)
    clear hK2 K2
    try simp only [Act.put, List.getElem_toArray, List.getElem_cons_zero, List.getElem_cons_succ, List.setIfInBounds_toArray, List.set_cons_zero, List.set_cons_succ]
    refine wpAnyH_take (i := 13) (v := ?tv14) rfl (by kernel_rfl) (by kernel_rfl) (by kernel_rfl) (fun _ _ _ h => h) (Or.inl ⟨by rfl, ?ty14⟩) (by assumption) ?tr14
    case ty14 => (intro w hSw; (try dsimp only at hSw); go_simp; (try with_reducible rfl))
    try simp only [Act.put, List.getElem_toArray, List.getElem_cons_zero, List.getElem_cons_succ, List.setIfInBounds_toArray, List.set_cons_zero, List.set_cons_succ]
    refine wpAnyH_take (i := 14) (v := ?tv15) rfl (by kernel_rfl) (by kernel_rfl) (by kernel_rfl) (fun _ _ _ h => h) (Or.inl ⟨by rfl, ?ty15⟩) (by assumption) ?tr15
    case ty15 => (intro w hSw; (try dsimp only at hSw); go_simp; (try with_reducible rfl))
    try simp only [Act.put, List.getElem_toArray, List.getElem_cons_zero, List.getElem_cons_succ, List.setIfInBounds_toArray, List.set_cons_zero, List.set_cons_succ]
    refine wpAnyH_take (i := 15) (v := ?tv16) rfl (by kernel_rfl) (by kernel_rfl) (by kernel_rfl) (fun _ _ _ h => h) (Or.inl ⟨by rfl, ?ty16⟩) (by assumption) ?tr16
    case ty16 => (intro w hSw; (try dsimp only at hSw); go_simp; (try with_reducible rfl))
    try simp only [Act.put, List.getElem_toArray, List.getElem_cons_zero, List.getElem_cons_succ, List.setIfInBounds_toArray, List.set_cons_zero, List.set_cons_succ]
    refine wpAnyH_ready (rs := [16]) (by kernel_rfl) (by simp) ?_
    refine AllReadyH.cons (i := 16) rfl (fun K2 hK2 => ?_) AllReadyH.nil
    go_simp
    obtain ⟨wa1, hwa1⟩ : ∃ x, (w101.alloc (.cells (List.replicate 32 (Value.int .u8 0)).toArray 29)) = x := ⟨_, rfl⟩
    have bwa1 : Below w101.heap.size w101 wa1 := by rw [← hwa1]; exact ((Below.refl _ w101).alloc (Nat.le_refl _) _)
    have Ra : Hid (wa1.heap[w101.heap.size]? = some (.cells (List.replicate 32 (Value.int .u8 0)).toArray 29 (0, 0))) := Lib.hid (by rw [← hwa1]; exact heap_at w101 _ _ rfl)
    have hsa : w101.heap.size < wa1.heap.size := by rw [← hwa1]; simp
    simp only [List.replicate] at hwa1
    rw [hwa1]
    clear hwa1
    refine hK2.out _ _ (show Gr w5 _ from (by repeat (first | exact Gr.refl _ | (refine Gr.step ?_ (by assumption)) | (refine Gr.alloc ?_ _) | (refine Gr.drew ?_)))) (fun hHeld2 => ?_)
    clear hK2 K2
    try simp only [Act.put, List.getElem_toArray, List.getElem_cons_zero, List.getElem_cons_succ, List.setIfInBounds_toArray, List.set_cons_zero, List.set_cons_succ]
    refine wpAnyH_ready (rs := [17]) (by kernel_rfl) (by simp) ?_
    refine AllReadyH.cons (i := 17) rfl (fun K2 hK2 => ?_) AllReadyH.nil
    rw [if_pos (by rfl)]
    refine wp_store_row 29 _ _ rfl w101.heap.size vr rfl rfl 29 _ (Ra.out) Ivr.out (by rw [Zvr.out]; simp) Ovr.out ?_
    refine hK2.out _ _ (show Gr w5 _ from below_setRow (show Gr w5 wa1 from (by repeat (first | exact Gr.refl _ | (refine Gr.step ?_ (by assumption)) | (refine Gr.alloc ?_ _) | (refine Gr.drew ?_)))) _ _ (by have := (show Gr w5 w101 from (by repeat (first | exact Gr.refl _ | (refine Gr.step ?_ (by assumption)) | (refine Gr.alloc ?_ _) | (refine Gr.drew ?_)))).size; omega)) (fun hHeld2 => ?_)
    clear hK2 K2
    try simp only [Act.put, List.getElem_toArray, List.getElem_cons_zero, List.getElem_cons_succ]
    refine wpAnyH_take (i := 18) (v := ?tv17) rfl (by kernel_rfl) (by kernel_rfl) (by kernel_rfl) (fun _ _ _ h => h) (Or.inl ⟨by rfl, ?ty17⟩) (by assumption) ?tr17
    case ty17 => (intro w hSw; (try dsimp only at hSw); go_simp; (try with_reducible rfl))
    try simp only [Act.put, List.getElem_toArray, List.getElem_cons_zero, List.getElem_cons_succ, List.setIfInBounds_toArray, List.set_cons_zero, List.set_cons_succ]
    refine wpAnyH_done (by kernel_rfl) ?_ _
    have bF : Below w5.heap.size w5 (wa1.setRow w101.heap.size vr) := below_setRow (show Gr w5 wa1 from (by repeat (first | exact Gr.refl _ | (refine Gr.step ?_ (by assumption)) | (refine Gr.alloc ?_ _) | (refine Gr.drew ?_)))) _ _ (by have := (show Gr w5 w101 from (by repeat (first | exact Gr.refl _ | (refine Gr.step ?_ (by assumption)) | (refine Gr.alloc ?_ _) | (refine Gr.drew ?_)))).size; omega)
    have RF : Hid ((wa1.setRow w101.heap.size vr).heap[w101.heap.size]? = some (.cells vr 29 (0, 0))) := Lib.hid (setRow_heap _ _ _ _ _ _ (Ra.out))
    have hrF : w5.heap.size ≤ w101.heap.size := (show Gr w5 w101 from (by repeat (first | exact Gr.refl _ | (refine Gr.step ?_ (by assumption)) | (refine Gr.alloc ?_ _) | (refine Gr.drew ?_)))).size
    obtain ⟨wF, hwF⟩ : ∃ x, wa1.setRow w101.heap.size vr = x := ⟨_, rfl⟩
    rw [hwF] at bF RF ⊢
    obtain ⟨rF, hrF'⟩ : ∃ x, w101.heap.size = x := ⟨_, rfl⟩
    rw [hrF'] at RF ⊢
    clear hwF hrF'
    have KF : Hid (∀ w', Gr wF w' → w'.heap[rF]? = some (.cells vr 29 (0, 0))) := Lib.hid (fun w' h => (h.block _ (Array.getElem?_eq_some_iff.1 RF.out).1).trans RF.out)
    have d0wF := cell_below (show Gr wb wF from (by repeat (first | exact Gr.refl _ | (refine Gr.step ?_ (by assumption)) | (refine Gr.alloc ?_ _) | (refine Gr.drew ?_)))) c0 hwb; have d1wF := cell_below (show Gr wb wF from (by repeat (first | exact Gr.refl _ | (refine Gr.step ?_ (by assumption)) | (refine Gr.alloc ?_ _) | (refine Gr.drew ?_)))) c1 hwb; have d2wF := cell_below (show Gr wb wF from (by repeat (first | exact Gr.refl _ | (refine Gr.step ?_ (by assumption)) | (refine Gr.alloc ?_ _) | (refine Gr.drew ?_)))) c2 hwb
    go_wp2_with (first | (refine wpList_load_row_g rfl 29 _ rfl rF rfl 29 vr (0, 0) _ RF.out Tryd.underlying29 rfl Ivr.out ?_) | (refine wpList_load_row_g rfl 29 _ rfl w3.heap.size rfl 29 vr (0, 0) _ (KR.out wF (show Gr w4 wF from (by repeat (first | exact Gr.refl _ | (refine Gr.step ?_ (by assumption)) | (refine Gr.alloc ?_ _) | (refine Gr.drew ?_))))) Tryd.underlying29 rfl Ivr.out ?_))
    refine (HVF.out wF (show Env B a wF from HE.out.step (show Gr w wF from (by repeat (first | exact Gr.refl _ | (refine Gr.step ?_ (by assumption)) | (refine Gr.alloc ?_ _) | (refine Gr.drew ?_))))) (H1.out.below (show Gr w wF from (by repeat (first | exact Gr.refl _ | (refine Gr.step ?_ (by assumption)) | (refine Gr.alloc ?_ _) | (refine Gr.drew ?_))))) (H2.out.below (show Gr w wF from (by repeat (first | exact Gr.refl _ | (refine Gr.step ?_ (by assumption)) | (refine Gr.alloc ?_ _) | (refine Gr.drew ?_)))))).mono ?_
    rintro ev w8 ⟨rfl, b8⟩
    have d0w8 := cell_below (show Gr wb w8 from (by repeat (first | exact Gr.refl _ | (refine Gr.step ?_ (by assumption)) | (refine Gr.alloc ?_ _) | (refine Gr.drew ?_)))) c0 hwb; have d1w8 := cell_below (show Gr wb w8 from (by repeat (first | exact Gr.refl _ | (refine Gr.step ?_ (by assumption)) | (refine Gr.alloc ?_ _) | (refine Gr.drew ?_)))) c1 hwb; have d2w8 := cell_below (show Gr wb w8 from (by repeat (first | exact Gr.refl _ | (refine Gr.step ?_ (by assumption)) | (refine Gr.alloc ?_ _) | (refine Gr.drew ?_)))) c2 hwb
    go_wp2
    go_ret
    exact ⟨rfl, show Gr w _ from (by repeat (first | exact Gr.refl _ | (refine Gr.step ?_ (by assumption)) | (refine Gr.alloc ?_ _) | (refine Gr.drew ?_)))⟩
  
  refine AllReadyH.cons (i := 16) rfl (fun K2 hK2 => ?_) ?more18
  · skip
    go_simp
    obtain ⟨wa2, hwa2⟩ : ∃ x, (w5.alloc (.cells (List.replicate 32 (Value.int .u8 0)).toArray 29)).drew = x := ⟨_, rfl⟩
    have bwa2 : Below w5.heap.size w5 wa2 := by rw [← hwa2]; exact ((Below.refl _ w5).alloc (Nat.le_refl _) _).drew
    have Ra : Hid (wa2.heap[w5.heap.size]? = some (.cells (List.replicate 32 (Value.int .u8 0)).toArray 29 (0, 0))) := Lib.hid (by rw [← hwa2]; exact heap_at w5 _ _ rfl)
    have hsa : w5.heap.size < wa2.heap.size := by rw [← hwa2]; simp
    simp only [List.replicate] at hwa2
    rw [hwa2]
    clear hwa2
    refine hK2.out _ _ (show Gr w5 _ from (by repeat (first | exact Gr.refl _ | (refine Gr.step ?_ (by assumption)) | (refine Gr.alloc ?_ _) | (refine Gr.drew ?_)))) (fun hHeld2 => ?_)
    clear hK2 K2
    try simp only [Act.put, List.getElem_toArray, List.getElem_cons_zero, List.getElem_cons_succ, List.setIfInBounds_toArray, List.set_cons_zero, List.set_cons_succ]
    refine wpAnyH_ready (rs := [12]) (by kernel_rfl) (by simp) ?_
    refine AllReadyH.cons (i := 12) rfl (fun K2 hK2 => ?_) AllReadyH.nil
    go_simp
    go_at_call 47
    refine (HVR.out wa2 (show Env B a wa2 from HE.out.step (show Gr w wa2 from (by repeat (first | exact Gr.refl _ | (refine Gr.step ?_ (by assumption)) | (refine Gr.alloc ?_ _) | (refine Gr.drew ?_))))) (YP.out.below (show Gr w5 wa2 from (by repeat (first | exact Gr.refl _ | (refine Gr.step ?_ (by assumption)) | (refine Gr.alloc ?_ _) | (refine Gr.drew ?_)))))).mono ?_
    rintro ev w102 ⟨rfl, b102⟩
    try go_wp2_with fail
    refine hK2.out _ _ (show Gr w5 _ from (by repeat (first | exact Gr.refl _ | (refine Gr.step ?_ (by assumption)) | (refine Gr.alloc ?_ _) | (refine Gr.drew ?_)))) (fun hHeld2 => ?_)
    clear hK2 K2
    try simp only [Act.put, List.getElem_toArray, List.getElem_cons_zero, List.getElem_cons_succ, List.setIfInBounds_toArray, List.set_cons_zero, List.set_cons_succ]
    refine wpAnyH_take (i := 13) (v := ?tv19) rfl (by kernel_rfl) (by kernel_rfl) (by kernel_rfl) (fun _ _ _ h => h) (Or.inl ⟨by rfl, ?ty19⟩) (by assumption) ?tr19
    case ty19 => (intro w hSw; (try dsimp only at hSw); go_simp; (try with_reducible rfl))
    try simp only [Act.put, List.getElem_toArray, List.getElem_cons_zero, List.getElem_cons_succ, List.setIfInBounds_toArray, List.set_cons_zero, List.set_cons_succ]
    refine wpAnyH_take (i := 14) (v := ?tv20) rfl (by kernel_rfl) (by kernel_rfl) (by kernel_rfl) (fun _ _ _ h => h) (Or.inl ⟨by rfl, ?ty20⟩) (by assumption) ?tr20
    case ty20 => (intro w hSw; (try dsimp only at hSw); go_simp; (try with_reducible rfl))
    try simp only [Act.put, List.getElem_toArray, List.getElem_cons_zero, List.getElem_cons_succ, List.setIfInBounds_toArray, List.set_cons_zero, List.set_cons_succ]
    refine wpAnyH_take (i := 15) (v := ?tv21) rfl (by kernel_rfl) (by kernel_rfl) (by kernel_rfl) (fun _ _ _ h => h) (Or.inl ⟨by rfl, ?ty21⟩) (by assumption) ?tr21
    case ty21 => (intro w hSw; (try dsimp only at hSw); go_simp; (try with_reducible rfl))
    try simp only [Act.put, List.getElem_toArray, List.getElem_cons_zero, List.getElem_cons_succ, List.setIfInBounds_toArray, List.set_cons_zero, List.set_cons_succ]
    refine wpAnyH_ready (rs := [17]) (by kernel_rfl) (by simp) ?_
    refine AllReadyH.cons (i := 17) rfl (fun K2 hK2 => ?_) AllReadyH.nil
    rw [if_pos (by rfl)]
    refine wp_store_row 29 _ _ rfl w5.heap.size vr rfl rfl 29 _ (((b102.block _ hsa).trans Ra.out)) Ivr.out (by rw [Zvr.out]; simp) Ovr.out ?_
    refine hK2.out _ _ (show Gr w5 _ from below_setRow (show Gr w5 w102 from (by repeat (first | exact Gr.refl _ | (refine Gr.step ?_ (by assumption)) | (refine Gr.alloc ?_ _) | (refine Gr.drew ?_)))) _ _ (by have := (show Gr w5 w5 from (by repeat (first | exact Gr.refl _ | (refine Gr.step ?_ (by assumption)) | (refine Gr.alloc ?_ _) | (refine Gr.drew ?_)))).size; omega)) (fun hHeld2 => ?_)
    clear hK2 K2
    try simp only [Act.put, List.getElem_toArray, List.getElem_cons_zero, List.getElem_cons_succ]
    refine wpAnyH_take (i := 18) (v := ?tv22) rfl (by kernel_rfl) (by kernel_rfl) (by kernel_rfl) (fun _ _ _ h => h) (Or.inl ⟨by rfl, ?ty22⟩) (by assumption) ?tr22
    case ty22 => (intro w hSw; (try dsimp only at hSw); go_simp; (try with_reducible rfl))
    try simp only [Act.put, List.getElem_toArray, List.getElem_cons_zero, List.getElem_cons_succ, List.setIfInBounds_toArray, List.set_cons_zero, List.set_cons_succ]
    refine wpAnyH_done (by kernel_rfl) ?_ _
    have bF : Below w5.heap.size w5 (w102.setRow w5.heap.size vr) := below_setRow (show Gr w5 w102 from (by repeat (first | exact Gr.refl _ | (refine Gr.step ?_ (by assumption)) | (refine Gr.alloc ?_ _) | (refine Gr.drew ?_)))) _ _ (by have := (show Gr w5 w5 from (by repeat (first | exact Gr.refl _ | (refine Gr.step ?_ (by assumption)) | (refine Gr.alloc ?_ _) | (refine Gr.drew ?_)))).size; omega)
    have RF : Hid ((w102.setRow w5.heap.size vr).heap[w5.heap.size]? = some (.cells vr 29 (0, 0))) := Lib.hid (setRow_heap _ _ _ _ _ _ (((b102.block _ hsa).trans Ra.out)))
    have hrF : w5.heap.size ≤ w5.heap.size := (show Gr w5 w5 from (by repeat (first | exact Gr.refl _ | (refine Gr.step ?_ (by assumption)) | (refine Gr.alloc ?_ _) | (refine Gr.drew ?_)))).size
    obtain ⟨wF, hwF⟩ : ∃ x, w102.setRow w5.heap.size vr = x := ⟨_, rfl⟩
    rw [hwF] at bF RF ⊢
    obtain ⟨rF, hrF'⟩ : ∃ x, w5.heap.size = x := ⟨_, rfl⟩
    rw [hrF'] at RF ⊢
    clear hwF hrF'
    have KF : Hid (∀ w', Gr wF w' → w'.heap[rF]? = some (.cells vr 29 (0, 0))) := Lib.hid (fun w' h => (h.block _ (Array.getElem?_eq_some_iff.1 RF.out).1).trans RF.out)
    have d0wF := cell_below (show Gr wb wF from (by repeat (first | exact Gr.refl _ | (refine Gr.step ?_ (by assumption)) | (refine Gr.alloc ?_ _) | (refine Gr.drew ?_)))) c0 hwb; have d1wF := cell_below (show Gr wb wF from (by repeat (first | exact Gr.refl _ | (refine Gr.step ?_ (by assumption)) | (refine Gr.alloc ?_ _) | (refine Gr.drew ?_)))) c1 hwb; have d2wF := cell_below (show Gr wb wF from (by repeat (first | exact Gr.refl _ | (refine Gr.step ?_ (by assumption)) | (refine Gr.alloc ?_ _) | (refine Gr.drew ?_)))) c2 hwb
    go_wp2_with (first | (refine wpList_load_row_g rfl 29 _ rfl rF rfl 29 vr (0, 0) _ RF.out Tryd.underlying29 rfl Ivr.out ?_) | (refine wpList_load_row_g rfl 29 _ rfl w3.heap.size rfl 29 vr (0, 0) _ (KR.out wF (show Gr w4 wF from (by repeat (first | exact Gr.refl _ | (refine Gr.step ?_ (by assumption)) | (refine Gr.alloc ?_ _) | (refine Gr.drew ?_))))) Tryd.underlying29 rfl Ivr.out ?_))
    refine (HVF.out wF (show Env B a wF from HE.out.step (show Gr w wF from (by repeat (first | exact Gr.refl _ | (refine Gr.step ?_ (by assumption)) | (refine Gr.alloc ?_ _) | (refine Gr.drew ?_))))) (H1.out.below (show Gr w wF from (by repeat (first | exact Gr.refl _ | (refine Gr.step ?_ (by assumption)) | (refine Gr.alloc ?_ _) | (refine Gr.drew ?_))))) (H2.out.below (show Gr w wF from (by repeat (first | exact Gr.refl _ | (refine Gr.step ?_ (by assumption)) | (refine Gr.alloc ?_ _) | (refine Gr.drew ?_)))))).mono ?_
    rintro ev w8 ⟨rfl, b8⟩
    have d0w8 := cell_below (show Gr wb w8 from (by repeat (first | exact Gr.refl _ | (refine Gr.step ?_ (by assumption)) | (refine Gr.alloc ?_ _) | (refine Gr.drew ?_)))) c0 hwb; have d1w8 := cell_below (show Gr wb w8 from (by repeat (first | exact Gr.refl _ | (refine Gr.step ?_ (by assumption)) | (refine Gr.alloc ?_ _) | (refine Gr.drew ?_)))) c1 hwb; have d2w8 := cell_below (show Gr wb w8 from (by repeat (first | exact Gr.refl _ | (refine Gr.step ?_ (by assumption)) | (refine Gr.alloc ?_ _) | (refine Gr.drew ?_)))) c2 hwb
    go_wp2
    go_ret
    exact ⟨rfl, show Gr w _ from (by repeat (first | exact Gr.refl _ | (refine Gr.step ?_ (by assumption)) | (refine Gr.alloc ?_ _) | (refine Gr.drew ?_)))⟩
  
  exact AllReadyH.nil
end Go.Proofs.YtmfngcnmacjbfaaDoor
