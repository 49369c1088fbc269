/- The law PlanFolds: any hashes folded from the right, as the reference folds them; they are as they were. Condition: the package-level variables read as listed. -/
import Derived.Test.YtdodfeoaioolnaaDoorPlanAlive
import Derived.Test.YtdodfeoaioolnaaDoorTwinHash
import Derived.Test.YtdodfeoaioolnaaDoorBeyond
namespace Go.Proofs.YtdodfeoaioolnaaDoor
open Go.ChangeShapes Go.WideShapes Go.ChangeAt Go.RowKit
set_option linter.unusedVariables false
theorem beyond1 (x0 : Nat) (w : World) (h0 : x0 ≤ 9000000000000000000) :
    Calls Tryd.prog 7 #[.slice (some ⟨w.heap.size, 0, none⟩) 1 1] (w.alloc (.cells #[.int .i64 (x0 : Nat)] 3)) fun ev w' => ev = .returned (.bool (decide (1048576 < x0))) ∧ w' = w.alloc (.cells #[.int .i64 (x0 : Nat)] 3) := by
  have := beyond_any [x0] w.heap.size 1 1 (w.alloc (.cells #[.int .i64 (x0 : Nat)] 3)) rfl (by simp; omega) (fun j x hj => by
    refine cell_new _ _ _ _ ?_
    match j, hj with
    | 0, hj => simp at hj; subst hj; rfl
    | j + 1, hj => simp at hj) (by omega)
  simpa using this.mono (fun _ _ h => ⟨h.1, h.2.symm⟩)
/-- which fault a fold has -/
def foldK (ps : List (List UInt8)) : Nat := if ps = [] then 2 else 0
theorem fold_any (a : Nat → Addr) (B : Nat) (ps : List (List UInt8)) (A : Option Addr) (n cap : Nat) (w : World) (hE : EnvP B a w) (hn : n ≤ 1000000000000) (hI : HIn w A n cap ps) :
    Calls Tryd.prog 9 #[.slice A n cap] w fun ev w' => ev = .returned (.tuple #[hv (foldR nodeH zeroH ps), errK a (foldK ps)]) ∧ Below w.heap.size w w' := by
  by_cases h : ps = []
  · obtain rfl : n = 0 := by have := hI.2.1; subst h; simpa using this.symm
    have := fold_nil a B cap A w hE.laid
    subst h
    exact this
  · have := fold_ok ps A n cap w hE.env.tab hn hI h
    have e : errK a (foldK ps) = .nilIface := by unfold foldK errK; rw [if_neg h]; rfl
    rw [e]; exact this
theorem reffold_any (ps : List (List UInt8)) (A : Option Addr) (n cap : Nat) (w : World) (hn : n ≤ 1000000000000) (hI : HIn w A n cap ps) :
    Calls Tryd.prog 10 #[.slice A n cap] w fun ev w' => ev = .returned (.tuple #[hv (foldR nodeH zeroH ps), faultV (foldK ps)]) ∧ Below w.heap.size w w' := by
  by_cases h : ps = []
  · obtain rfl : n = 0 := by have := hI.2.1; subst h; simpa using this.symm
    have := reffold_nil cap A w
    subst h
    exact this
  · have := reffold_ok ps A n cap w hn hI h
    have e : faultV (foldK ps) = faultV 0 := by unfold foldK; rw [if_neg h]
    rw [e]; exact this
set_option maxRecDepth 100000 in
theorem folds_great (ps : List (List UInt8)) (A : Option Addr) (n cap : Nat) (w : World) (hn : n ≤ 9000000000000000000) (h : 1048576 < n) : Calls Tryd.prog 3 #[.slice A n cap] w fun ev w' => ev = .returned (.bool true) ∧ Below w.heap.size w w' := by
  have hd : decide (1048576 < n) = true := by simpa using h
  have HBY := Lib.hid (beyond1 n w hn)
  clear h hn
  go_enter Tryd.func3, Tryd.ntmps3
  go_wp2_with fail
  refine HBY.out.mono ?_
  rintro ev w1 ⟨rfl, rfl⟩
  rw [hd]
  go_wp2
  go_ret
  exact ⟨rfl, (Below.refl _ _).alloc (Nat.le_refl _) _⟩
set_option maxRecDepth 100000 in
set_option maxHeartbeats 8000000 in
theorem folds_any (a : Nat → Addr) (B : Nat) (ps : List (List UInt8)) (A : Option Addr) (n cap : Nat) (w : World) (hE : EnvP B a w) (hI : HIn w A n cap ps) (hg : n ≤ 1048576) : Calls Tryd.prog 3 #[.slice A n cap] w fun ev w' => ev = .returned (.bool true) ∧ Below w.heap.size w w' := by
  have HE := Lib.hid hE
  have HI := Lib.hid hI
  have hd : decide (1048576 < n) = false := by simp; omega
  have HBY := Lib.hid (beyond1 n w (by omega))
  have hl := hI.2.1
  have hfl : (foldR nodeH zeroH ps).length = 32 := foldR_len ps hI.1
  have HFO : Hid (∀ A n cap w, EnvP B a w → n ≤ 1000000000000 → HIn w A n cap ps → _) := Lib.hid (fun A n cap w h1 h2 h3 => fold_any a B ps A n cap w h1 h2 h3)
  have HRF : Hid (∀ A n cap w, n ≤ 1000000000000 → HIn w A n cap ps → _) := Lib.hid (fun A n cap w h2 h3 => reffold_any ps A n cap w h2 h3)
  have hk : foldK ps ≤ 16 := by unfold foldK; split <;> omega
  obtain ⟨F, hF⟩ : ∃ F, foldR nodeH zeroH ps = F := ⟨_, rfl⟩
  rw [hF] at hfl HFO HRF
  obtain ⟨vr, evr, Hvr, Zvr, Ivr, Ovr⟩ := row_of F hfl
  rw [evr] at HFO HRF
  obtain ⟨k, hkk⟩ : ∃ k, foldK ps = k := ⟨_, rfl⟩
  rw [hkk] at HFO HRF hk
  obtain ⟨vf, evf, HVF, Zvf, Ivf, Ovf⟩ := fault_of k
  rw [evf] at HRF
  have HSF : Hid (∀ w, EnvP B a w → Calls Tryd.prog 11 #[errK a k, .agg vf] w fun ev w' => ev = .returned (.bool true) ∧ Below w.heap.size w w') := Lib.hid (fun w h => by
    have := same_fault a B k w h.laid hk
    rw [evf] at this; exact this)
  obtain ⟨ek, hek⟩ : ∃ e, errK a k = e := ⟨_, rfl⟩
  rw [hek] at HFO HSF
  have hqrr : ∀ w, (Op.equalIn 10000 26 (.agg vr) (.agg vr)).run Tryd.prog w = .ok true w := fun w => by rw [eq_hash F F hfl hfl vr vr evr evr w]; simp
  have HQ := Lib.hid hqrr
  obtain ⟨w0, hw0⟩ : ∃ z, w.alloc (.cells #[.int .i64 (n : Nat)] 3) = z := ⟨_, rfl⟩
  have b0 : Gr w w0 := by rw [← hw0]; exact (Gr.refl _).alloc _
  rw [hw0] at HBY
  have HW0 := Lib.hid hw0
  have hn8 : n ≤ 1000000000000 := by omega
  have hn9 : n + 1 ≤ 1000000000000 := by omega
  have HG := Lib.hid hg
  have HL := Lib.hid hl
  clear hE hI hl hF evr hkk evf hek hqrr hw0 hfl hg
  go_enter Tryd.func3, Tryd.ntmps3
  go_wp2_with fail
  rw [HW0.out]
  refine HBY.out.mono ?_
  rintro ev w0' ⟨rfl, rfl⟩
  rw [hd]
  go_wp2_with fail
  refine (twin_any A n cap ps w0' (HI.out.below (show Gr w w0' from (by repeat (first | exact Gr.refl _ | (refine Gr.step ?_ (by assumption)) | (refine Gr.alloc ?_ _) | (refine Gr.drew ?_))))) HG.out).mono ?_
  rintro ev w1 ⟨rfl, hT1, b1⟩
  have HT1 := Lib.hid hT1
  clear hT1
  go_wp2_with fail
  refine (HFO.out _ n (n + 1) w1 (show EnvP B a w1 from HE.out.step (show Gr w w1 from (by repeat (first | exact Gr.refl _ | (refine Gr.step ?_ (by assumption)) | (refine Gr.alloc ?_ _) | (refine Gr.drew ?_))))) hn8 (HT1.out.hin HL.out HG.out)).mono ?_
  rintro ev w2 ⟨rfl, b2⟩
  go_upto_region 5 with (refine wpList_store_row_any rfl 26 _ _ rfl w2.heap.size vr rfl rfl 26 _ (heap_at _ _ _ rfl) Ivr.out (by rw [Zvr.out]; rfl) Ovr.out ?_; intro w3 hbN hgN hsN; have b3 : Below w2.heap.size w2 w3 := ((Below.refl _ w2).alloc (Nat.le_refl _) _).trans (hbN.to_below (by simp) (fun k hk q => by omega)); have R3 := Lib.hid hgN; clear hbN hgN hsN)
  go_wp2_with fail
  refine (HRF.out A n cap w3 hn8 (HI.out.below (show Gr w w3 from (by repeat (first | exact Gr.refl _ | (refine Gr.step ?_ (by assumption)) | (refine Gr.alloc ?_ _) | (refine Gr.drew ?_)))))).mono ?_
  rintro ev w4 ⟨rfl, b4⟩
  have z5 : ((w4.alloc (.cells (List.replicate 32 (Value.int .u8 0)).toArray 26)).alloc (.cells #[.int .i64 0, .int .i64 0] 32)).heap[w4.heap.size]? = some (.cells (List.replicate 32 (Value.int .u8 0)).toArray 26 (0, 0)) := by
    rw [((Below.refl _ _).alloc (Nat.le_refl _) _).block _ (by simp)]; exact heap_at _ _ _ rfl
  have z6 : ((w4.alloc (.cells (List.replicate 32 (Value.int .u8 0)).toArray 26)).alloc (.cells #[.int .i64 0, .int .i64 0] 32)).heap[w4.heap.size + 1]? = some (.cells #[.int .i64 0, .int .i64 0] 32 (0, 0)) := heap_at _ _ _ (by simp)
  obtain ⟨wy, hwy⟩ : ∃ z, (w4.alloc (.cells (List.replicate 32 (Value.int .u8 0)).toArray 26)).alloc (.cells #[.int .i64 0, .int .i64 0] 32) = z := ⟨_, rfl⟩
  have by_ : Below w4.heap.size w4 wy := by rw [← hwy]; exact ((Below.refl _ _).alloc (Nat.le_refl _) _).alloc (by simp) _
  have hsy : w4.heap.size + 2 = wy.heap.size := by rw [← hwy]; simp
  rw [hwy] at z5 z6
  have Z5 := Lib.hid z5
  have Z6 := Lib.hid z6
  have HWY := Lib.hid hwy
  simp only [List.replicate, List.toArray] at HWY
  clear z5 z6 hwy
  have l2 : w2.heap.size < w4.heap.size := by have := (Array.getElem?_eq_some_iff.1 R3.out).1; have := b4.size; omega
  go_upto_region 6 with (first | (rw [HWY.out]; refine wpList_store_row_any rfl 26 _ _ rfl w4.heap.size vr rfl rfl 26 _ Z5.out Ivr.out (by rw [Zvr.out]; rfl) Ovr.out ?_; intro w5 hb5 hg5 hs5; have R5f := Lib.hid ((hb5.same _ (by omega) (by omega)).trans Z6.out); have R5 := Lib.hid hg5; have B5 := Lib.hid (And.intro hb5 hs5); clear hb5 hg5 hs5) | (refine wpList_store_row_any rfl 32 _ _ rfl (w4.heap.size + 1) vf rfl rfl 32 _ R5f.out Ivf.out (by rw [Zvf.out]; rfl) Ovf.out ?_; intro w6 hb6 hg6 hs6; have R6f := Lib.hid hg6; have B6 := Lib.hid (And.intro hb6 hs6); clear hb6 hg6 hs6))
  have b6 : Below w4.heap.size w4 w6 := by
    have h1 := B5.out
    have h2 := B6.out
    exact (by_.trans (h1.1.to_below (by omega) (fun k hk q => by omega))).trans (h2.1.to_below (by omega) (fun k hk q => by omega))
  have R6 : Hid (w6.heap[w4.heap.size]? = some (.cells vr 26 (0, 0))) := Lib.hid ((B6.out.1.same _ (by have := B5.out.2; omega) (by omega)).trans R5.out)
  have R63 : Hid (w6.heap[w2.heap.size]? = some (.cells vr 26 (0, 0))) := Lib.hid ((b6.block _ l2).trans ((b4.block _ (Array.getElem?_eq_some_iff.1 R3.out).1).trans R3.out))
  clear by_
  have hqrr := HQ.out
  go_wp2_with (first | (refine wpList_load_row rfl 26 _ rfl w2.heap.size rfl 26 vr (0, 0) _ R63.out Tryd.underlying26 rfl Ivr.out ?_) | (refine wpList_load_row rfl 26 _ rfl w4.heap.size rfl 26 vr (0, 0) _ R6.out Tryd.underlying26 rfl Ivr.out ?_) | (refine wpList_load_row_g (by rfl) 32 _ rfl (w4.heap.size + 1) rfl 32 vf (0, 0) _ R6f.out Tryd.underlying32 rfl Ivf.out ?_))
  refine (HSF.out w6 (show EnvP B a w6 from HE.out.step (show Gr w w6 from (by repeat (first | exact Gr.refl _ | (refine Gr.step ?_ (by assumption)) | (refine Gr.alloc ?_ _) | (refine Gr.drew ?_)))))).mono ?_
  rintro ev w7 ⟨rfl, b7⟩
  go_wp2_with fail
  refine (left_any w0'.heap.size n cap A ps w7 (HT1.out.below (show Gr w1 w7 from (by repeat (first | exact Gr.refl _ | (refine Gr.step ?_ (by assumption)) | (refine Gr.alloc ?_ _) | (refine Gr.drew ?_))))) (HI.out.below (show Gr w w7 from (by repeat (first | exact Gr.refl _ | (refine Gr.step ?_ (by assumption)) | (refine Gr.alloc ?_ _) | (refine Gr.drew ?_))))) HG.out).mono ?_
  rintro ev w8 ⟨rfl, b8⟩
  go_wp2_with fail
  refine (alive15 a B w8 (show EnvP B a w8 from HE.out.step (show Gr w w8 from (by repeat (first | exact Gr.refl _ | (refine Gr.step ?_ (by assumption)) | (refine Gr.alloc ?_ _) | (refine Gr.drew ?_)))))).mono ?_
  rintro ev w9 ⟨rfl, b9⟩
  go_wp2
  go_ret
  exact ⟨rfl, show Gr w _ from (by repeat (first | exact Gr.refl _ | (refine Gr.step ?_ (by assumption)) | (refine Gr.alloc ?_ _) | (refine Gr.drew ?_)))⟩
end Go.Proofs.YtdodfeoaioolnaaDoor
