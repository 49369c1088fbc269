/- cartularylaw19.alive: answers true. Condition: the package-level variables read as listed. -/
import Derived.Test.YtmfngcnmacjbfaaDoorSameHashes
import Derived.Test.YtmfngcnmacjbfaaDoorBatchPath
namespace Go.Proofs.YtmfngcnmacjbfaaDoor
open Go.ChangeShapes Go.WideShapes Go.ChangeAt Go.RowKit
set_option linter.unusedVariables false
theorem k_ab : leafH ⟨#[97]⟩ ≠ leafH ⟨#[98]⟩ := by decide +kernel
theorem k_n0 : nodeH (leafH ⟨#[97]⟩) (leafH ⟨#[98]⟩) ≠ zeroH := by decide +kernel
theorem k_na : nodeH (leafH ⟨#[97]⟩) (leafH ⟨#[98]⟩) ≠ leafH ⟨#[97]⟩ := by decide +kernel
theorem b021 : batchK 0 2 1 1 = 0 := by decide +kernel
theorem b020 : batchK 0 2 1 0 = 10 := by decide +kernel
theorem root2 (a b : List UInt8) : rootB 0 2 [a] [b] = nodeH a b := by
  have hk : blwI (2 - 0) = 1 := by decide +kernel
  unfold rootB
  rw [sayF_node nodeH (by simp) (by omega), hk, sayF_leaf nodeH (by simp) (by omega)]
  simp only
  rw [sayF_out nodeH (.inr (by simp))]
  rfl
theorem path2 (a b : List UInt8) : pathB 0 2 [a] [b] 0 = [b] := by
  have hk : blwI (2 - 0) = 1 := by decide +kernel
  unfold pathB
  rw [pathF, if_neg (by omega), hk, if_pos (by omega), pathF, if_pos (by omega), sayF_leaf nodeH (b := 0) (e := 0 + 1) (by simp) (by omega)]
  simp only
  rw [sayF_out nodeH (.inr (by simp))]
  rfl
theorem two_hin (w : World) (va vb : Array Value) (a b : List UInt8) (la : a.length = 32) (lb : b.length = 32) (ha : (bytesV a).toArray = va) (hb : (bytesV b).toArray = vb) :
    HIn ((w.alloc (.cells va 29)).alloc (.cells vb 29)) (some ⟨w.heap.size, 0, none⟩) 1 1 [a] ∧ HIn ((w.alloc (.cells va 29)).alloc (.cells vb 29)) (some ⟨w.heap.size + 1, 0, none⟩) 1 1 [b] := by
  refine ⟨(hin_one w va a la ha).below ((Below.refl _ _).alloc (Nat.le_refl _) _), ?_⟩
  have := hin_one (w.alloc (.cells va 29)) vb b lb hb
  simpa using this
set_option maxRecDepth 100000 in
set_option maxHeartbeats 8000000 in
theorem alive19 (a : Nat → Addr) (B : Nat) (w : World) (hE : Env B a w) : Calls Tryd.prog 20 #[] w fun ev w' => ev = .returned (.bool true) ∧ Below w.heap.size w w' := by
  have HE := Lib.hid hE
  clear hE
  have la := leafH_length ⟨#[97]⟩
  have lb := leafH_length ⟨#[98]⟩
  have kab := k_ab
  have kn0 := k_n0
  have kna := k_na
  have hfa : ∀ w, Env B a w → _ := fun w h => hleaf_any ⟨#[97]⟩ w (by decide) h.tab
  have hfb : ∀ w, Env B a w → _ := fun w h => hleaf_any ⟨#[98]⟩ w (by decide) h.tab
  obtain ⟨ha, hha⟩ : ∃ h, leafH ⟨#[97]⟩ = h := ⟨_, rfl⟩
  obtain ⟨hb, hhb⟩ : ∃ h, leafH ⟨#[98]⟩ = h := ⟨_, rfl⟩
  rw [hha] at la kab kn0 kna hfa
  rw [hhb] at lb kab kn0 kna hfb
  have ln := nodeH_length ha hb
  have hnd : ∀ w, Env B a w → _ := fun w h => hnode_any ha hb w la lb h.tab
  have hrt := root2 ha hb
  obtain ⟨hn, hhn⟩ : ∃ h, nodeH ha hb = h := ⟨_, rfl⟩
  rw [hhn] at kn0 kna ln hnd hrt
  obtain ⟨va, ea, Ha, Zva, Iva, Ova⟩ := row_of ha la
  obtain ⟨vb, eb, Hb, Zvb, Ivb, Ovb⟩ := row_of hb lb
  obtain ⟨vn, en, Hn, Zvn, Ivn, Ovn⟩ := row_of hn ln
  rw [ea] at hfa
  rw [eb] at hfb
  rw [ea, eb, en] at hnd
  have HL := Lib.hid (And.intro la (And.intro lb ln))
  have HK := Lib.hid (And.intro kab (And.intro kn0 kna))
  have HV := Lib.hid (And.intro ea (And.intro eb en))
  have HRT := Lib.hid hrt
  have HF := Lib.hid (And.intro hfa (And.intro hfb hnd))
  obtain ⟨vz, ez, Hz, Zvz, Ivz, Ovz⟩ := row_of zeroH zeroH_length
  have HROOT : Hid (∀ (A1 A2 : Option Addr) w, Env B a w → HIn w A1 1 1 [ha] → HIn w A2 1 1 [hb] → Calls Tryd.prog 15 #[.int .u64 0, .int .u64 2, .slice A1 1 1, .slice A2 1 1] w fun ev w' => ev = .returned (.tuple #[.agg vn, .nilIface]) ∧ Below w.heap.size w w') := Lib.hid (fun A1 A2 w h h1 h2 => by
    refine (root_ok a B 0 2 A1 A2 1 1 [ha] [hb] w h h1 h2 (by omega) (by omega) (by omega) (by omega) b021).mono ?_
    rintro ev w' ⟨q1, _, q2⟩
    exact ⟨by rw [q1, hrt, en], q2⟩)
  have HPATH : Hid (∀ (A1 A2 : Option Addr) w, Env B a w → HIn w A1 1 1 [ha] → HIn w A2 1 1 [hb] → Calls Tryd.prog 44 #[.int .u64 0, .int .u64 2, .slice A1 1 1, .slice A2 1 1, .int .u64 0] w (HashesPost w [hb])) := Lib.hid (fun A1 A2 w h h1 h2 => by
    have := bpath_ok a B 0 2 0 A1 A2 1 1 [ha] [hb] w h h1 h2 (by omega) (by omega) (by omega) (by omega) b021 (by omega) (by simp)
    rw [path2] at this; exact this)
  have HVER : Hid (∀ (A1 A2 : Option Addr) w, Env B a w → HIn w A1 1 1 [ha] → HIn w A2 1 1 [hb] → Calls Tryd.prog 16 #[.int .u64 0, .int .u64 2, .slice A1 1 1, .slice A2 1 1, .agg vn] w fun ev w' => ev = .returned .nilIface ∧ Below w.heap.size w w') := Lib.hid (fun A1 A2 w h h1 h2 => by
    have := verify_ok a B 0 2 A1 A2 1 1 [ha] [hb] hn ln w h h1 h2 (by omega) (by omega) (by omega) (by omega) b021
    rw [hrt, if_pos rfl, en] at this; exact this)
  have HVERA : Hid (∀ (A1 A2 : Option Addr) w, Env B a w → HIn w A1 1 1 [ha] → HIn w A2 1 1 [hb] → Calls Tryd.prog 16 #[.int .u64 0, .int .u64 2, .slice A1 1 1, .slice A2 1 1, .agg va] w fun ev w' => ev = .returned (errV a 10) ∧ Below w.heap.size w w') := Lib.hid (fun A1 A2 w h h1 h2 => by
    have := verify_ok a B 0 2 A1 A2 1 1 [ha] [hb] ha la w h h1 h2 (by omega) (by omega) (by omega) (by omega) b021
    rw [hrt, if_neg kna, ea] at this; exact this)
  have HROOT0 : Hid (∀ (A1 : Option Addr) w, Env B a w → Calls Tryd.prog 15 #[.int .u64 0, .int .u64 2, .slice A1 1 1, .slice none 0 0] w fun ev w' => ev = .returned (.tuple #[.agg vz, errV a 10]) ∧ Below w.heap.size w w') := Lib.hid (fun A1 w h => by
    have := root_bad a B 0 2 A1 none 1 0 1 0 w h (by omega) (by omega) (by omega) (by omega) (by omega) (by omega) 10 b020 (by omega)
    rw [ez] at this; exact this)
  have hqab : ∀ w, (Op.equalIn 10000 29 (.agg va) (.agg vb)).run Tryd.prog w = .ok false w := fun w => by rw [eq_hash ha hb la lb va vb ea eb w]; simp [kab]
  have hqnn : ∀ w, (Op.equalIn 10000 29 (.agg vn) (.agg vn)).run Tryd.prog w = .ok true w := fun w => by rw [eq_hash hn hn ln ln vn vn en en w]; simp
  have hqnz : ∀ w, (Op.equalIn 10000 29 (.agg vn) (.agg #[.int .u8 0, .int .u8 0, .int .u8 0, .int .u8 0, .int .u8 0, .int .u8 0, .int .u8 0, .int .u8 0, .int .u8 0, .int .u8 0, .int .u8 0, .int .u8 0, .int .u8 0, .int .u8 0, .int .u8 0, .int .u8 0, .int .u8 0, .int .u8 0, .int .u8 0, .int .u8 0, .int .u8 0, .int .u8 0, .int .u8 0, .int .u8 0, .int .u8 0, .int .u8 0, .int .u8 0, .int .u8 0, .int .u8 0, .int .u8 0, .int .u8 0, .int .u8 0])).run Tryd.prog w = .ok false w := fun w => by rw [eq_hash hn zeroH ln zeroH_length vn _ en (by rw [zeroH_v]; rfl) w]; simp [kn0]
  have HQ := Lib.hid (And.intro hqab (And.intro hqnn hqnz))
  clear hqab hqnn hqnz ez
  clear la lb ln kab kn0 kna ea eb en hrt hfa hfb hnd hha hhb hhn
  go_enter Tryd.func20, Tryd.ntmps20
  go_wp2_with fail
  refine (HF.out.1 _ HE.out).mono ?_
  rintro ev w1 ⟨rfl, b1⟩
  have b1' : Below w.heap.size w w1 := b1
  go_wp2_with (refine wpList_store_row_any rfl 29 _ _ rfl w1.heap.size va rfl rfl 29 _ (heap_at _ _ _ rfl) Iva.out (by rw [Zva.out]; rfl) Ova.out ?_; intro w2 hbN hgN hsN; have b2 : Below w1.heap.size w1 w2 := ((Below.refl _ w1).alloc (Nat.le_refl _) _).trans (hbN.to_below (by simp) (fun k hk q => by omega)); have Rw2 := Lib.hid hgN; clear hbN hgN hsN)
  refine (HF.out.2.1 w2 (HE.out.step (by repeat (first | exact Gr.refl _ | (refine Gr.step ?_ (by assumption)) | (refine Gr.alloc ?_ _) | (refine Gr.drew ?_))))).mono ?_
  rintro ev w3 ⟨rfl, b3⟩
  go_upto_region 3 with ((refine wpList_store_row_any rfl 29 _ _ rfl w3.heap.size vb rfl rfl 29 _ (heap_at _ _ _ rfl) Ivb.out (by rw [Zvb.out]; rfl) Ovb.out ?_; intro w4 hbN hgN hsN; have b4 : Below w3.heap.size w3 w4 := ((Below.refl _ w3).alloc (Nat.le_refl _) _).trans (hbN.to_below (by simp) (fun k hk q => by omega)); have Rw4 := Lib.hid hgN; clear hbN hgN hsN))
  have Kva : Hid (∀ w', Gr w4 w' → w'.heap[w1.heap.size]? = some (.cells va 29 (0, 0))) := Lib.hid (fun w' h => by
    have hl := (Array.getElem?_eq_some_iff.1 Rw2.out).1
    have hb2 := b3.trans (b4.mono b3.size)
    exact (h.block _ (Nat.lt_of_lt_of_le hl hb2.size)).trans ((hb2.block _ hl).trans Rw2.out))
  have Kvb : Hid (∀ w', Gr w4 w' → w'.heap[w3.heap.size]? = some (.cells vb 29 (0, 0))) := Lib.hid (fun w' h => (h.block _ (Array.getElem?_eq_some_iff.1 Rw4.out).1).trans Rw4.out)
  go_wp2_with (first | (refine wpList_load_row rfl 29 _ rfl _ rfl 29 va (0, 0) _ (Kva.out _ (by repeat (first | exact Gr.refl _ | (refine Gr.step ?_ (by assumption)) | (refine Gr.alloc ?_ _) | (refine Gr.drew ?_)))) Tryd.underlying29 rfl Iva.out ?_) | (refine wpList_load_row rfl 29 _ rfl _ rfl 29 vb (0, 0) _ (Kvb.out _ (by repeat (first | exact Gr.refl _ | (refine Gr.step ?_ (by assumption)) | (refine Gr.alloc ?_ _) | (refine Gr.drew ?_)))) Tryd.underlying29 rfl Ivb.out ?_) | (refine wpList_load_row rfl 29 _ rfl _ rfl 29 vn (0, 0) _ (Kvn.out _ (by repeat (first | exact Gr.refl _ | (refine Gr.step ?_ (by assumption)) | (refine Gr.alloc ?_ _) | (refine Gr.drew ?_)))) Tryd.underlying29 rfl Ivn.out ?_) | (refine wpList_buildSlice_row rfl 23 29 _ va _ 32 rfl rfl Tryd.underlying23 Tryd.sizeOf29 Tryd.zeroValue29 rfl Zva.out (by omega) (by omega) ?_) | (refine wpList_buildSlice_row rfl 23 29 _ vb _ 32 rfl rfl Tryd.underlying23 Tryd.sizeOf29 Tryd.zeroValue29 rfl Zvb.out (by omega) (by omega) ?_))
  refine (HROOT.out _ _ ((w4.alloc (.cells va 29)).alloc (.cells vb 29)) (HE.out.step (by repeat (first | exact Gr.refl _ | (refine Gr.step ?_ (by assumption)) | (refine Gr.alloc ?_ _) | (refine Gr.drew ?_)))) (two_hin w4 va vb ha hb HL.out.1 HL.out.2.1 Ha.out Hb.out).1 (two_hin w4 va vb ha hb HL.out.1 HL.out.2.1 Ha.out Hb.out).2).mono ?_
  rintro ev w5 ⟨rfl, b5⟩
  go_upto_region 4 with ((refine wpList_store_row_any rfl 29 _ _ rfl w5.heap.size vn rfl rfl 29 _ (heap_at _ _ _ rfl) Ivn.out (by rw [Zvn.out]; rfl) Ovn.out ?_; intro w6 hbN hgN hsN; have b6 : Below w5.heap.size w5 w6 := ((Below.refl _ w5).alloc (Nat.le_refl _) _).trans (hbN.to_below (by simp) (fun k hk q => by omega)); have Rw6 := Lib.hid hgN; clear hbN hgN hsN))
  have Kvn : Hid (∀ w', Gr w6 w' → w'.heap[w5.heap.size]? = some (.cells vn 29 (0, 0))) := Lib.hid (fun w' h => (h.block _ (Array.getElem?_eq_some_iff.1 Rw6.out).1).trans Rw6.out)
  go_wp2_with (first | (refine wpList_load_row rfl 29 _ rfl _ rfl 29 va (0, 0) _ (Kva.out _ (by repeat (first | exact Gr.refl _ | (refine Gr.step ?_ (by assumption)) | (refine Gr.alloc ?_ _) | (refine Gr.drew ?_)))) Tryd.underlying29 rfl Iva.out ?_) | (refine wpList_load_row rfl 29 _ rfl _ rfl 29 vb (0, 0) _ (Kvb.out _ (by repeat (first | exact Gr.refl _ | (refine Gr.step ?_ (by assumption)) | (refine Gr.alloc ?_ _) | (refine Gr.drew ?_)))) Tryd.underlying29 rfl Ivb.out ?_) | (refine wpList_load_row rfl 29 _ rfl _ rfl 29 vn (0, 0) _ (Kvn.out _ (by repeat (first | exact Gr.refl _ | (refine Gr.step ?_ (by assumption)) | (refine Gr.alloc ?_ _) | (refine Gr.drew ?_)))) Tryd.underlying29 rfl Ivn.out ?_) | (refine wpList_buildSlice_row rfl 23 29 _ va _ 32 rfl rfl Tryd.underlying23 Tryd.sizeOf29 Tryd.zeroValue29 rfl Zva.out (by omega) (by omega) ?_) | (refine wpList_buildSlice_row rfl 23 29 _ vb _ 32 rfl rfl Tryd.underlying23 Tryd.sizeOf29 Tryd.zeroValue29 rfl Zvb.out (by omega) (by omega) ?_))
  refine (HPATH.out _ _ ((w6.alloc (.cells va 29)).alloc (.cells vb 29)) (HE.out.step (by repeat (first | exact Gr.refl _ | (refine Gr.step ?_ (by assumption)) | (refine Gr.alloc ?_ _) | (refine Gr.drew ?_)))) (two_hin w6 va vb ha hb HL.out.1 HL.out.2.1 Ha.out Hb.out).1 (two_hin w6 va vb ha hb HL.out.1 HL.out.2.1 Ha.out Hb.out).2).mono ?_
  rintro ev w7 ⟨hp32, v7, rfl, ho7, b7⟩
  obtain ⟨A7, c7, rfl, hc7⟩ := own_shape ho7
  have H7 := Lib.hid (own_hin ho7 hp32 rfl)
  clear ho7 hp32
  go_wp2_with (first | (refine wpList_load_row rfl 29 _ rfl _ rfl 29 va (0, 0) _ (Kva.out _ (by repeat (first | exact Gr.refl _ | (refine Gr.step ?_ (by assumption)) | (refine Gr.alloc ?_ _) | (refine Gr.drew ?_)))) Tryd.underlying29 rfl Iva.out ?_) | (refine wpList_load_row rfl 29 _ rfl _ rfl 29 vb (0, 0) _ (Kvb.out _ (by repeat (first | exact Gr.refl _ | (refine Gr.step ?_ (by assumption)) | (refine Gr.alloc ?_ _) | (refine Gr.drew ?_)))) Tryd.underlying29 rfl Ivb.out ?_) | (refine wpList_load_row rfl 29 _ rfl _ rfl 29 vn (0, 0) _ (Kvn.out _ (by repeat (first | exact Gr.refl _ | (refine Gr.step ?_ (by assumption)) | (refine Gr.alloc ?_ _) | (refine Gr.drew ?_)))) Tryd.underlying29 rfl Ivn.out ?_) | (refine wpList_buildSlice_row rfl 23 29 _ va _ 32 rfl rfl Tryd.underlying23 Tryd.sizeOf29 Tryd.zeroValue29 rfl Zva.out (by omega) (by omega) ?_) | (refine wpList_buildSlice_row rfl 23 29 _ vb _ 32 rfl rfl Tryd.underlying23 Tryd.sizeOf29 Tryd.zeroValue29 rfl Zvb.out (by omega) (by omega) ?_))
  refine (HVER.out _ _ ((w7.alloc (.cells va 29)).alloc (.cells vb 29)) (HE.out.step (by repeat (first | exact Gr.refl _ | (refine Gr.step ?_ (by assumption)) | (refine Gr.alloc ?_ _) | (refine Gr.drew ?_)))) (two_hin w7 va vb ha hb HL.out.1 HL.out.2.1 Ha.out Hb.out).1 (two_hin w7 va vb ha hb HL.out.1 HL.out.2.1 Ha.out Hb.out).2).mono ?_
  rintro ev w8 ⟨rfl, b8⟩
  go_wp2_with (first | (refine wpList_load_row rfl 29 _ rfl _ rfl 29 va (0, 0) _ (Kva.out _ (by repeat (first | exact Gr.refl _ | (refine Gr.step ?_ (by assumption)) | (refine Gr.alloc ?_ _) | (refine Gr.drew ?_)))) Tryd.underlying29 rfl Iva.out ?_) | (refine wpList_load_row rfl 29 _ rfl _ rfl 29 vb (0, 0) _ (Kvb.out _ (by repeat (first | exact Gr.refl _ | (refine Gr.step ?_ (by assumption)) | (refine Gr.alloc ?_ _) | (refine Gr.drew ?_)))) Tryd.underlying29 rfl Ivb.out ?_) | (refine wpList_load_row rfl 29 _ rfl _ rfl 29 vn (0, 0) _ (Kvn.out _ (by repeat (first | exact Gr.refl _ | (refine Gr.step ?_ (by assumption)) | (refine Gr.alloc ?_ _) | (refine Gr.drew ?_)))) Tryd.underlying29 rfl Ivn.out ?_) | (refine wpList_buildSlice_row rfl 23 29 _ va _ 32 rfl rfl Tryd.underlying23 Tryd.sizeOf29 Tryd.zeroValue29 rfl Zva.out (by omega) (by omega) ?_) | (refine wpList_buildSlice_row rfl 23 29 _ vb _ 32 rfl rfl Tryd.underlying23 Tryd.sizeOf29 Tryd.zeroValue29 rfl Zvb.out (by omega) (by omega) ?_))
  refine (HROOT0.out _ (w8.alloc (.cells va 29)) (HE.out.step (by repeat (first | exact Gr.refl _ | (refine Gr.step ?_ (by assumption)) | (refine Gr.alloc ?_ _) | (refine Gr.drew ?_))))).mono ?_
  rintro ev w9 ⟨rfl, b9⟩
  go_upto_region 7 with ((refine wpList_store_row_any rfl 29 _ _ rfl w9.heap.size vz rfl rfl 29 _ (heap_at _ _ _ rfl) Ivz.out (by rw [Zvz.out]; rfl) Ovz.out ?_; intro w10 hbN hgN hsN; have b10 : Below w9.heap.size w9 w10 := ((Below.refl _ w9).alloc (Nat.le_refl _) _).trans (hbN.to_below (by simp) (fun k hk q => by omega)); have Rw10 := Lib.hid hgN; clear hbN hgN hsN))
  have g410 : Unit → Gr w4 w10 := fun _ => (by repeat (first | exact Gr.refl _ | (refine Gr.step ?_ (by assumption)) | (refine Gr.alloc ?_ _) | (refine Gr.drew ?_)))
  have g610 : Unit → Gr w6 w10 := fun _ => (by repeat (first | exact Gr.refl _ | (refine Gr.step ?_ (by assumption)) | (refine Gr.alloc ?_ _) | (refine Gr.drew ?_)))
  have hqab := HQ.out.1
  have hqnn := HQ.out.2.1
  have hqnz := HQ.out.2.2
  unfold errV
  refine wp_region_held_drew (S := Gr w10) (by kernel_rfl) ((Gr.refl _).drew) (fun hHeld => ?_)
  refine wpAnyH_take (i := 0) (v := ?tv1) rfl (by kernel_rfl) (by kernel_rfl) (by kernel_rfl) (fun _ _ _ h => h) (Or.inl ⟨by rfl, ?ty1⟩) (by assumption) ?tr1
  case ty1 => (intro w hSw; (try dsimp only at hSw); go_simp; (try with_reducible rfl))
  try simp only [Act.put, List.getElem_toArray, List.getElem_cons_zero, List.setIfInBounds_toArray, List.set_cons_zero, List.set_cons_succ]
  refine wpAnyH_take (i := 1) (v := ?tv2) rfl (by kernel_rfl) (by kernel_rfl) (by kernel_rfl) (fun _ _ _ h => h) (Or.inl ⟨by rfl, ?ty2⟩) (by assumption) ?tr2
  case ty2 => (intro w hSw; (try dsimp only at hSw); go_simp; (try with_reducible rfl))
  try simp only [Act.put, List.getElem_toArray, List.getElem_cons_zero, List.getElem_cons_succ, List.setIfInBounds_toArray, List.set_cons_zero, List.set_cons_succ]
  refine wpAnyH_take (i := 2) (v := ?tv3) rfl (by kernel_rfl) (by kernel_rfl) (by kernel_rfl) (fun _ _ _ h => h) (Or.inl ⟨by rfl, ?ty3⟩) (by assumption) ?tr3
  case ty3 => (intro w hSw; (try dsimp only at hSw); go_simp; (try with_reducible rfl))
  try simp only [Act.put, List.getElem_toArray, List.getElem_cons_zero, List.getElem_cons_succ, List.setIfInBounds_toArray, List.set_cons_zero, List.set_cons_succ]
  refine wpAnyH_take (i := 3) (v := ?tv4) rfl (by kernel_rfl) (by kernel_rfl) (by kernel_rfl) (fun _ _ _ h => h) (Or.inl ⟨by rfl, ?ty4⟩) (by assumption) ?tr4
  case ty4 => (intro w hSw; (try dsimp only at hSw); go_simp; (try with_reducible rfl))
  try simp only [Act.put, List.getElem_toArray, List.getElem_cons_zero, List.getElem_cons_succ, List.setIfInBounds_toArray, List.set_cons_zero, List.set_cons_succ]
  refine wpAnyH_take (i := 4) (v := ?tv5) rfl (by kernel_rfl) (by kernel_rfl) (by kernel_rfl) (fun _ _ _ h => h) (Or.inl ⟨by rfl, ?ty5⟩) (by assumption) ?tr5
  case ty5 => (intro w hSw; (try dsimp only at hSw); go_simp; (try with_reducible rfl))
  try simp only [Act.put, List.getElem_toArray, List.getElem_cons_zero, List.getElem_cons_succ, List.setIfInBounds_toArray, List.set_cons_zero, List.set_cons_succ]
  refine wpAnyH_take (i := 5) (v := ?tv6) rfl (by kernel_rfl) (by kernel_rfl) (by kernel_rfl) (fun _ _ _ h => h) (Or.inl ⟨by rfl, ?ty6⟩) (by assumption) ?tr6
  case ty6 => (intro w hSw; (try dsimp only at hSw); go_simp; (try with_reducible rfl))
  try simp only [Act.put, List.getElem_toArray, List.getElem_cons_zero, List.getElem_cons_succ, List.setIfInBounds_toArray, List.set_cons_zero, List.set_cons_succ]
  refine wpAnyH_take (i := 6) (v := ?tv7) rfl (by kernel_rfl) (by kernel_rfl) (by kernel_rfl) (fun _ _ _ h => h) (Or.inl ⟨by rfl, ?ty7⟩) (by assumption) ?tr7
  case ty7 => (intro w hSw; (try dsimp only at hSw); go_simp; (try with_reducible rfl))
  try simp only [Act.put, List.getElem_toArray, List.getElem_cons_zero, List.getElem_cons_succ, List.setIfInBounds_toArray, List.set_cons_zero, List.set_cons_succ]
  refine wpAnyH_take (i := 7) (v := ?tv8) rfl (by kernel_rfl) (by kernel_rfl) (by kernel_rfl) (fun _ _ _ h => h) (Or.inl ⟨by rfl, ?ty8⟩) (by assumption) ?tr8
  case ty8 => (intro w hSw; (try dsimp only at hSw); go_simp; (try with_reducible rfl))
  try simp only [Act.put, List.getElem_toArray, List.getElem_cons_zero, List.getElem_cons_succ, List.setIfInBounds_toArray, List.set_cons_zero, List.set_cons_succ]
  refine wpAnyH_take (i := 8) (v := ?tv9) rfl (by kernel_rfl) (by kernel_rfl) (by kernel_rfl) (fun _ _ _ h => h) (Or.inl ⟨by rfl, ?ty9⟩) (by assumption) ?tr9
  case ty9 => (intro w hSw; (try dsimp only at hSw); go_simp; (try with_reducible rfl))
  try simp only [Act.put, List.getElem_toArray, List.getElem_cons_zero, List.getElem_cons_succ, List.setIfInBounds_toArray, List.set_cons_zero, List.set_cons_succ]
  refine wpAnyH_take (i := 9) (v := ?tv10) rfl (by kernel_rfl) (by kernel_rfl) (by kernel_rfl) (fun _ _ _ h => h) (Or.inl ⟨by rfl, ?ty10⟩) (by assumption) ?tr10
  case ty10 => (intro w hSw; (try dsimp only at hSw); go_simp; (try with_reducible rfl))
  try simp only [Act.put, List.getElem_toArray, List.getElem_cons_zero, List.getElem_cons_succ, List.setIfInBounds_toArray, List.set_cons_zero, List.set_cons_succ]
  refine wpAnyH_take (i := 10) (v := ?tv11) rfl (by kernel_rfl) (by kernel_rfl) (by kernel_rfl) (fun _ _ _ h => h) (Or.inl ⟨by rfl, ?ty11⟩) (by assumption) ?tr11
  case ty11 => (intro w hSw; (try dsimp only at hSw); go_simp; (try with_reducible rfl))
  try simp only [Act.put, List.getElem_toArray, List.getElem_cons_zero, List.getElem_cons_succ, List.setIfInBounds_toArray, List.set_cons_zero, List.set_cons_succ]
  refine wpAnyH_take (i := 11) (v := _) rfl (by kernel_rfl) (by kernel_rfl) (by kernel_rfl) (fun _ _ _ h => h) (yieldsIf_load_row (by rfl) 29 _ (by rfl) _ (by rfl) 29 va (0, 0) _ (fun w h => Kva.out w ((g410 ()).step h)) Tryd.underlying29 rfl Iva.out) (by assumption) ?_
  try simp only [Act.put, List.getElem_toArray, List.getElem_cons_zero, List.getElem_cons_succ, List.setIfInBounds_toArray, List.set_cons_zero, List.set_cons_succ]
  refine wpAnyH_take (i := 12) (v := _) rfl (by kernel_rfl) (by kernel_rfl) (by kernel_rfl) (fun _ _ _ h => h) (yieldsIf_load_row (by rfl) 29 _ (by rfl) _ (by rfl) 29 vb (0, 0) _ (fun w h => Kvb.out w ((g410 ()).step h)) Tryd.underlying29 rfl Ivb.out) (by assumption) ?_
  try simp only [Act.put, List.getElem_toArray, List.getElem_cons_zero, List.getElem_cons_succ, List.setIfInBounds_toArray, List.set_cons_zero, List.set_cons_succ]
  refine wpAnyH_take (i := 13) (v := ?tv14) rfl (by kernel_rfl) (by kernel_rfl) (by kernel_rfl) (fun _ _ _ h => h) (Or.inl ⟨by rfl, ?ty14⟩) (by assumption) ?tr14
  case ty14 => (intro w hSw; (try dsimp only at hSw); go_simp; (try with_reducible rfl))
  try simp only [Act.put, List.getElem_toArray, List.getElem_cons_zero, List.getElem_cons_succ, List.setIfInBounds_toArray, List.set_cons_zero, List.set_cons_succ]
  refine wpAnyH_take (i := 14) (v := ?tv15) rfl (by kernel_rfl) (by kernel_rfl) (by kernel_rfl) (fun _ _ _ h => h) (Or.inl ⟨by rfl, ?ty15⟩) (by assumption) ?tr15
  case ty15 => (intro w hSw; (try dsimp only at hSw); go_simp; (try with_reducible rfl))
  try simp only [Act.put, List.getElem_toArray, List.getElem_cons_zero, List.getElem_cons_succ, List.setIfInBounds_toArray, List.set_cons_zero, List.set_cons_succ]
  refine wpAnyH_take (i := 15) (v := ?tv16) rfl (by kernel_rfl) (by kernel_rfl) (by kernel_rfl) (fun _ _ _ h => h) (Or.inl ⟨by rfl, ?ty16⟩) (by assumption) ?tr16
  case ty16 => (intro w hSw; (try dsimp only at hSw); go_simp; (try with_reducible rfl))
  try simp only [Act.put, List.getElem_toArray, List.getElem_cons_zero, List.getElem_cons_succ, List.setIfInBounds_toArray, List.set_cons_zero, List.set_cons_succ]
  refine wpAnyH_take (i := 16) (v := _) rfl (by kernel_rfl) (by kernel_rfl) (by kernel_rfl) (fun _ _ _ h => h) (yieldsIf_load_row (by rfl) 29 _ (by rfl) _ (by rfl) 29 vn (0, 0) _ (fun w h => Kvn.out w ((g610 ()).step h)) Tryd.underlying29 rfl Ivn.out) (by assumption) ?_
  try simp only [Act.put, List.getElem_toArray, List.getElem_cons_zero, List.getElem_cons_succ, List.setIfInBounds_toArray, List.set_cons_zero, List.set_cons_succ]
  refine wpAnyH_take (i := 17) (v := _) rfl (by kernel_rfl) (by kernel_rfl) (by kernel_rfl) (fun _ _ _ h => h) (yieldsIf_load_row (by rfl) 29 _ (by rfl) _ (by rfl) 29 va (0, 0) _ (fun w h => Kva.out w ((g410 ()).step h)) Tryd.underlying29 rfl Iva.out) (by assumption) ?_
  try simp only [Act.put, List.getElem_toArray, List.getElem_cons_zero, List.getElem_cons_succ, List.setIfInBounds_toArray, List.set_cons_zero, List.set_cons_succ]
  refine wpAnyH_take (i := 18) (v := _) rfl (by kernel_rfl) (by kernel_rfl) (by kernel_rfl) (fun _ _ _ h => h) (yieldsIf_load_row (by rfl) 29 _ (by rfl) _ (by rfl) 29 vb (0, 0) _ (fun w h => Kvb.out w ((g410 ()).step h)) Tryd.underlying29 rfl Ivb.out) (by assumption) ?_
  try simp only [Act.put, List.getElem_toArray, List.getElem_cons_zero, List.getElem_cons_succ, List.setIfInBounds_toArray, List.set_cons_zero, List.set_cons_succ]
  refine wpAnyH_ready (rs := [19]) (by kernel_rfl) (by simp) ?_
  refine AllReadyH.cons (i := 19) rfl (fun K2 hK2 => ?_) AllReadyH.nil
  go_simp
  go_at_call 32
  refine (HF.out.2.2 w10.drew (show Env B a w10.drew from HE.out.step (by repeat (first | exact Gr.refl _ | (refine Gr.step ?_ (by assumption)) | (refine Gr.alloc ?_ _) | (refine Gr.drew ?_))))).mono ?_
  rintro ev w11 ⟨rfl, b11⟩
  try go_wp2_with fail
  refine hK2.out _ _ (show Gr w10 _ from (by repeat (first | exact Gr.refl _ | (refine Gr.step ?_ (by assumption)) | (refine Gr.alloc ?_ _) | (refine Gr.drew ?_)))) (fun hHeld2 => ?_)
  clear hK2 K2
  try simp only [Act.put, List.getElem_toArray, List.getElem_cons_zero, List.getElem_cons_succ, List.setIfInBounds_toArray, List.set_cons_zero, List.set_cons_succ]
  refine wpAnyH_take (i := 20) (v := ?tv20) rfl (by kernel_rfl) (by kernel_rfl) (by kernel_rfl) (fun _ _ _ h => h) (Or.inl ⟨by rfl, ?ty20⟩) (by assumption) ?tr20
  case ty20 => (intro w hSw; (try dsimp only at hSw); go_simp; (try with_reducible rfl))
  try simp only [Act.put, List.getElem_toArray, List.getElem_cons_zero, List.getElem_cons_succ, List.setIfInBounds_toArray, List.set_cons_zero, List.set_cons_succ]
  refine wpAnyH_take (i := 21) (v := ?tv21) rfl (by kernel_rfl) (by kernel_rfl) (by kernel_rfl) (fun _ _ _ h => h) (Or.inl ⟨by rfl, ?ty21⟩) (by assumption) ?tr21
  case ty21 => (intro w hSw; (try dsimp only at hSw); go_simp; (try with_reducible rfl))
  try simp only [Act.put, List.getElem_toArray, List.getElem_cons_zero, List.getElem_cons_succ, List.setIfInBounds_toArray, List.set_cons_zero, List.set_cons_succ]
  refine wpAnyH_take (i := 22) (v := ?tv22) rfl (by kernel_rfl) (by kernel_rfl) (by kernel_rfl) (fun _ _ _ h => h) (Or.inl ⟨by rfl, ?ty22⟩) (by assumption) ?tr22
  case ty22 => (intro w hSw; (try dsimp only at hSw); go_simp; (try with_reducible rfl))
  try simp only [Act.put, List.getElem_toArray, List.getElem_cons_zero, List.getElem_cons_succ, List.setIfInBounds_toArray, List.set_cons_zero, List.set_cons_succ]
  refine wpAnyH_take (i := 23) (v := _) rfl (by kernel_rfl) (by kernel_rfl) (by kernel_rfl) (fun _ _ _ h => h) (yieldsIf_load_row (by rfl) 29 _ (by rfl) _ (by rfl) 29 vn (0, 0) _ (fun w h => Kvn.out w ((g610 ()).step h)) Tryd.underlying29 rfl Ivn.out) (by assumption) ?_
  try simp only [Act.put, List.getElem_toArray, List.getElem_cons_zero, List.getElem_cons_succ, List.setIfInBounds_toArray, List.set_cons_zero, List.set_cons_succ]
  refine wpAnyH_take (i := 24) (v := ?tv24) rfl (by kernel_rfl) (by kernel_rfl) (by kernel_rfl) (fun _ _ _ h => h) (Or.inl ⟨by rfl, ?ty24⟩) (by assumption) ?tr24
  case ty24 => (intro w hSw; (try dsimp only at hSw); go_simp; (try with_reducible rfl))
  try simp only [Act.put, List.getElem_toArray, List.getElem_cons_zero, List.getElem_cons_succ, List.setIfInBounds_toArray, List.set_cons_zero, List.set_cons_succ]
  refine wpAnyH_take (i := 25) (v := ?tv25) rfl (by kernel_rfl) (by kernel_rfl) (by kernel_rfl) (fun _ _ _ h => h) (Or.inl ⟨by rfl, ?ty25⟩) (by assumption) ?tr25
  case ty25 => (intro w hSw; (try dsimp only at hSw); go_simp; (try with_reducible rfl))
  try simp only [Act.put, List.getElem_toArray, List.getElem_cons_zero, List.getElem_cons_succ, List.setIfInBounds_toArray, List.set_cons_zero, List.set_cons_succ]
  refine wpAnyH_take (i := 26) (v := ?tv26) rfl (by kernel_rfl) (by kernel_rfl) (by kernel_rfl) (fun _ _ _ h => h) (Or.inl ⟨by rfl, ?ty26⟩) (by assumption) ?tr26
  case ty26 => (intro w hSw; (try dsimp only at hSw); go_simp; (try with_reducible rfl))
  try simp only [Act.put, List.getElem_toArray, List.getElem_cons_zero, List.getElem_cons_succ, List.setIfInBounds_toArray, List.set_cons_zero, List.set_cons_succ]
  refine wpAnyH_take (i := 27) (v := ?tv27) rfl (by kernel_rfl) (by kernel_rfl) (by kernel_rfl) (fun _ _ _ h => h) (Or.inl ⟨by rfl, ?ty27⟩) (by assumption) ?tr27
  case ty27 => (intro w hSw; (try dsimp only at hSw); go_simp; (try with_reducible rfl))
  try simp only [Act.put, List.getElem_toArray, List.getElem_cons_zero, List.getElem_cons_succ, List.setIfInBounds_toArray, List.set_cons_zero, List.set_cons_succ]
  refine wpAnyH_take (i := 28) (v := ?tv28) rfl (by kernel_rfl) (by kernel_rfl) (by kernel_rfl) (fun _ _ _ h => h) (Or.inl ⟨by rfl, ?ty28⟩) (by assumption) ?tr28
  case ty28 => (intro w hSw; (try dsimp only at hSw); go_simp; (try with_reducible rfl))
  try simp only [Act.put, List.getElem_toArray, List.getElem_cons_zero, List.getElem_cons_succ, List.setIfInBounds_toArray, List.set_cons_zero, List.set_cons_succ]
  refine wpAnyH_take (i := 29) (v := _) rfl (by kernel_rfl) (by kernel_rfl) (by kernel_rfl) (fun _ _ _ h => h) (yieldsIf_load_row (by rfl) 29 _ (by rfl) _ (by rfl) 29 vb (0, 0) _ (fun w h => Kvb.out w ((g410 ()).step h)) Tryd.underlying29 rfl Ivb.out) (by assumption) ?_
  try simp only [Act.put, List.getElem_toArray, List.getElem_cons_zero, List.getElem_cons_succ, List.setIfInBounds_toArray, List.set_cons_zero, List.set_cons_succ]
  refine wpAnyH_ready (rs := [30]) (by kernel_rfl) (by simp) ?_
  refine AllReadyH.cons (i := 30) rfl (fun K2 hK2 => ?_) AllReadyH.nil
  rw [if_pos (by rfl)]
  refine wp_buildSlice_row 23 29 _ vb _ 32 rfl rfl Tryd.underlying23 Tryd.sizeOf29 Tryd.zeroValue29 rfl Zvb.out (by omega) (by omega) ?_
  refine hK2.out _ _ (show Gr w10 _ from (by repeat (first | exact Gr.refl _ | (refine Gr.step ?_ (by assumption)) | (refine Gr.alloc ?_ _) | (refine Gr.drew ?_)))) (fun hHeld2 => ?_)
  clear hK2 K2
  try simp only [Act.put, List.getElem_toArray, List.getElem_cons_zero, List.getElem_cons_succ, List.setIfInBounds_toArray, List.set_cons_zero, List.set_cons_succ]
  refine wpAnyH_ready (rs := [31]) (by kernel_rfl) (by simp) ?_
  refine AllReadyH.cons (i := 31) rfl (fun K2 hK2 => ?_) AllReadyH.nil
  go_simp
  go_at_call 52
  refine (same_hashes [hb] [hb] A7 _ 1 1 c7 1 (w11.alloc (.cells vb 29)) (by omega) (H7.out.below (show Gr w7 (w11.alloc (.cells vb 29)) from (by repeat (first | exact Gr.refl _ | (refine Gr.step ?_ (by assumption)) | (refine Gr.alloc ?_ _) | (refine Gr.drew ?_))))) (hin_one w11 vb hb HL.out.2.1 Hb.out)).mono ?_
  rintro ev w12 ⟨rfl, b12⟩
  try go_wp2_with fail
  refine hK2.out _ _ (show Gr w10 _ from (by repeat (first | exact Gr.refl _ | (refine Gr.step ?_ (by assumption)) | (refine Gr.alloc ?_ _) | (refine Gr.drew ?_)))) (fun hHeld2 => ?_)
  clear hK2 K2
  try simp only [Act.put, List.getElem_toArray, List.getElem_cons_zero, List.getElem_cons_succ, List.setIfInBounds_toArray, List.set_cons_zero, List.set_cons_succ]
  refine wpAnyH_take (i := 32) (v := ?tv30) rfl (by kernel_rfl) (by kernel_rfl) (by kernel_rfl) (fun _ _ _ h => h) (Or.inl ⟨by rfl, ?ty30⟩) (by assumption) ?tr30
  case ty30 => (intro w hSw; (try dsimp only at hSw); go_simp; (try with_reducible rfl))
  try simp only [Act.put, List.getElem_toArray, List.getElem_cons_zero, List.getElem_cons_succ, List.setIfInBounds_toArray, List.set_cons_zero, List.set_cons_succ]
  refine wpAnyH_take (i := 33) (v := ?tv31) rfl (by kernel_rfl) (by kernel_rfl) (by kernel_rfl) (fun _ _ _ h => h) (Or.inl ⟨by rfl, ?ty31⟩) (by assumption) ?tr31
  case ty31 => (intro w hSw; (try dsimp only at hSw); go_simp; (try with_reducible rfl))
  try simp only [Act.put, List.getElem_toArray, List.getElem_cons_zero, List.getElem_cons_succ, List.setIfInBounds_toArray, List.set_cons_zero, List.set_cons_succ]
  refine wpAnyH_take (i := 34) (v := ?tv32) rfl (by kernel_rfl) (by kernel_rfl) (by kernel_rfl) (fun _ _ _ h => h) (Or.inl ⟨by rfl, ?ty32⟩) (by assumption) ?tr32
  case ty32 => (intro w hSw; (try dsimp only at hSw); go_simp; (try with_reducible rfl))
  try simp only [Act.put, List.getElem_toArray, List.getElem_cons_zero, List.getElem_cons_succ, List.setIfInBounds_toArray, List.set_cons_zero, List.set_cons_succ]
  refine wpAnyH_ready (rs := [35]) (by kernel_rfl) (by simp) ?_
  refine AllReadyH.cons (i := 35) rfl (fun K2 hK2 => ?_) AllReadyH.nil
  go_simp
  go_at_call 21
  refine (is_sent a B 10 w12 (show Env B a w12 from HE.out.step (by repeat (first | exact Gr.refl _ | (refine Gr.step ?_ (by assumption)) | (refine Gr.alloc ?_ _) | (refine Gr.drew ?_)))).laid (by omega) (by omega)).mono ?_
  rintro ev w13 ⟨rfl, b13⟩
  try go_wp2_with fail
  refine hK2.out _ _ (show Gr w10 _ from (by repeat (first | exact Gr.refl _ | (refine Gr.step ?_ (by assumption)) | (refine Gr.alloc ?_ _) | (refine Gr.drew ?_)))) (fun hHeld2 => ?_)
  clear hK2 K2
  try simp only [Act.put, List.getElem_toArray, List.getElem_cons_zero, List.getElem_cons_succ, List.setIfInBounds_toArray, List.set_cons_zero, List.set_cons_succ]
  refine wpAnyH_take (i := 36) (v := ?tv33) rfl (by kernel_rfl) (by kernel_rfl) (by kernel_rfl) (fun _ _ _ h => h) (Or.inl ⟨by rfl, ?ty33⟩) (by assumption) ?tr33
  case ty33 => (intro w hSw; (try dsimp only at hSw); go_simp; (try with_reducible rfl))
  try simp only [Act.put, List.getElem_toArray, List.getElem_cons_zero, List.getElem_cons_succ, List.setIfInBounds_toArray, List.set_cons_zero, List.set_cons_succ]
  refine wpAnyH_take (i := 37) (v := ?tv34) rfl (by kernel_rfl) (by kernel_rfl) (by kernel_rfl) (fun _ _ _ h => h) (Or.inl ⟨by rfl, ?ty34⟩) (by assumption) ?tr34
  case ty34 => (intro w hSw; (try dsimp only at hSw); go_simp; (try with_reducible rfl))
  try simp only [Act.put, List.getElem_toArray, List.getElem_cons_zero, List.getElem_cons_succ, List.setIfInBounds_toArray, List.set_cons_zero, List.set_cons_succ]
  refine wpAnyH_take (i := 38) (v := _) rfl (by kernel_rfl) (by kernel_rfl) (by kernel_rfl) (fun _ _ _ h => h) (yieldsIf_load_row (by rfl) 29 _ (by rfl) _ (by rfl) 29 va (0, 0) _ (fun w h => Kva.out w ((g410 ()).step h)) Tryd.underlying29 rfl Iva.out) (by assumption) ?_
  try simp only [Act.put, List.getElem_toArray, List.getElem_cons_zero, List.getElem_cons_succ, List.setIfInBounds_toArray, List.set_cons_zero, List.set_cons_succ]
  refine wpAnyH_take (i := 40) (v := _) rfl (by kernel_rfl) (by kernel_rfl) (by kernel_rfl) (fun _ _ _ h => h) (yieldsIf_load_row (by rfl) 29 _ (by rfl) _ (by rfl) 29 vb (0, 0) _ (fun w h => Kvb.out w ((g410 ()).step h)) Tryd.underlying29 rfl Ivb.out) (by assumption) ?_
  try simp only [Act.put, List.getElem_toArray, List.getElem_cons_zero, List.getElem_cons_succ, List.setIfInBounds_toArray, List.set_cons_zero, List.set_cons_succ]
  refine wpAnyH_take (i := 42) (v := _) rfl (by kernel_rfl) (by kernel_rfl) (by kernel_rfl) (fun _ _ _ h => h) (yieldsIf_load_row (by rfl) 29 _ (by rfl) _ (by rfl) 29 va (0, 0) _ (fun w h => Kva.out w ((g410 ()).step h)) Tryd.underlying29 rfl Iva.out) (by assumption) ?_
  try simp only [Act.put, List.getElem_toArray, List.getElem_cons_zero, List.getElem_cons_succ, List.setIfInBounds_toArray, List.set_cons_zero, List.set_cons_succ]
  refine wpAnyH_ready (rs := [39, 41]) (by kernel_rfl) (by simp) ?_
  refine AllReadyH.cons (i := 39) rfl (fun K2 hK2 => ?_) ?more38
  · skip
    rw [if_pos (by rfl)]
    refine wp_buildSlice_row 23 29 _ va _ 32 rfl rfl Tryd.underlying23 Tryd.sizeOf29 Tryd.zeroValue29 rfl Zva.out (by omega) (by omega) ?_
    refine hK2.out _ _ (show Gr w10 _ from (by repeat (first | exact Gr.refl _ | (refine Gr.step ?_ (by assumption)) | (refine Gr.alloc ?_ _) | (refine Gr.drew ?_)))) (fun hHeld2 => ?_)
    clear hK2 K2
    try simp only [Act.put, List.getElem_toArray, List.getElem_cons_zero, List.getElem_cons_succ, List.setIfInBounds_toArray, List.set_cons_zero, List.set_cons_succ]
    refine wpAnyH_ready (rs := [41]) (by kernel_rfl) (by simp) ?_
    refine AllReadyH.cons (i := 41) rfl (fun K2 hK2 => ?_) AllReadyH.nil
    rw [if_pos (by rfl)]
    refine wp_buildSlice_row 23 29 _ vb _ 32 rfl rfl Tryd.underlying23 Tryd.sizeOf29 Tryd.zeroValue29 rfl Zvb.out (by omega) (by omega) ?_
    refine hK2.out _ _ (show Gr w10 _ from (by repeat (first | exact Gr.refl _ | (refine Gr.step ?_ (by assumption)) | (refine Gr.alloc ?_ _) | (refine Gr.drew ?_)))) (fun hHeld2 => ?_)
    clear hK2 K2
    try simp only [Act.put, List.getElem_toArray, List.getElem_cons_zero, List.getElem_cons_succ, List.setIfInBounds_toArray, List.set_cons_zero, List.set_cons_succ]
    refine wpAnyH_ready (rs := [43]) (by kernel_rfl) (by simp) ?_
    refine AllReadyH.cons (i := 43) rfl (fun K2 hK2 => ?_) AllReadyH.nil
    go_simp
    go_at_call 16
    refine (HVERA.out _ _ ((w13.alloc (.cells va 29)).alloc (.cells vb 29)) (show Env B a ((w13.alloc (.cells va 29)).alloc (.cells vb 29)) from HE.out.step (by repeat (first | exact Gr.refl _ | (refine Gr.step ?_ (by assumption)) | (refine Gr.alloc ?_ _) | (refine Gr.drew ?_)))) (two_hin w13 va vb ha hb HL.out.1 HL.out.2.1 Ha.out Hb.out).1 (two_hin w13 va vb ha hb HL.out.1 HL.out.2.1 Ha.out Hb.out).2).mono ?_
    rintro ev w14 ⟨rfl, b14⟩
    try go_wp2_with fail
    refine hK2.out _ _ (show Gr w10 _ from (by repeat (first | exact Gr.refl _ | (refine Gr.step ?_ (by assumption)) | (refine Gr.alloc ?_ _) | (refine Gr.drew ?_)))) (fun hHeld2 => ?_)
    clear hK2 K2
    try simp only [Act.put, List.getElem_toArray, List.getElem_cons_zero, List.getElem_cons_succ, List.setIfInBounds_toArray, List.set_cons_zero, List.set_cons_succ]
    refine wpAnyH_ready (rs := [44]) (by kernel_rfl) (by simp) ?_
    refine AllReadyH.cons (i := 44) rfl (fun K2 hK2 => ?_) AllReadyH.nil
    go_simp
    go_at_call 21
    refine (is_sent a B 10 w14 (show Env B a w14 from HE.out.step (by repeat (first | exact Gr.refl _ | (refine Gr.step ?_ (by assumption)) | (refine Gr.alloc ?_ _) | (refine Gr.drew ?_)))).laid (by omega) (by omega)).mono ?_
    rintro ev w15 ⟨rfl, b15⟩
    try go_wp2_with fail
    refine hK2.out _ _ (show Gr w10 _ from (by repeat (first | exact Gr.refl _ | (refine Gr.step ?_ (by assumption)) | (refine Gr.alloc ?_ _) | (refine Gr.drew ?_)))) (fun hHeld2 => ?_)
    clear hK2 K2
    try simp only [Act.put, List.getElem_toArray, List.getElem_cons_zero, List.getElem_cons_succ, List.setIfInBounds_toArray, List.set_cons_zero, List.set_cons_succ]
    refine wpAnyH_take (i := 45) (v := ?tv39) rfl (by kernel_rfl) (by kernel_rfl) (by kernel_rfl) (fun _ _ _ h => h) (Or.inl ⟨by rfl, ?ty39⟩) (by assumption) ?tr39
    case ty39 => (intro w hSw; (try dsimp only at hSw); go_simp; (try with_reducible rfl))
    try simp only [Act.put, List.getElem_toArray, List.getElem_cons_zero, List.getElem_cons_succ, List.setIfInBounds_toArray, List.set_cons_zero, List.set_cons_succ]
    refine wpAnyH_take (i := 46) (v := ?tv40) rfl (by kernel_rfl) (by kernel_rfl) (by kernel_rfl) (fun _ _ _ h => h) (Or.inl ⟨by rfl, ?ty40⟩) (by assumption) ?tr40
    case ty40 => (intro w hSw; (try dsimp only at hSw); go_simp; (try with_reducible rfl))
    try simp only [Act.put, List.getElem_toArray, List.getElem_cons_zero, List.getElem_cons_succ, List.setIfInBounds_toArray, List.set_cons_zero]
    refine wpAnyH_done (by kernel_rfl) ?_ _
    go_wp2
    go_ret
    exact ⟨rfl, show Gr w _ from (by repeat (first | exact Gr.refl _ | (refine Gr.step ?_ (by assumption)) | (refine Gr.alloc ?_ _) | (refine Gr.drew ?_)))⟩
  
  refine AllReadyH.cons (i := 41) rfl (fun K2 hK2 => ?_) ?more41
  · skip
    rw [if_pos (by rfl)]
    refine wp_buildSlice_row 23 29 _ vb _ 32 rfl rfl Tryd.underlying23 Tryd.sizeOf29 Tryd.zeroValue29 rfl Zvb.out (by omega) (by omega) ?_
    refine hK2.out _ _ (show Gr w10 _ from (by repeat (first | exact Gr.refl _ | (refine Gr.step ?_ (by assumption)) | (refine Gr.alloc ?_ _) | (refine Gr.drew ?_)))) (fun hHeld2 => ?_)
    clear hK2 K2
    try simp only [Act.put, List.getElem_toArray, List.getElem_cons_zero, List.getElem_cons_succ, List.setIfInBounds_toArray, List.set_cons_zero, List.set_cons_succ]
    refine wpAnyH_ready (rs := [39]) (by kernel_rfl) (by simp) ?_
    refine AllReadyH.cons (i := 39) rfl (fun K2 hK2 => ?_) AllReadyH.nil
    rw [if_pos (by rfl)]
    refine wp_buildSlice_row 23 29 _ va _ 32 rfl rfl Tryd.underlying23 Tryd.sizeOf29 Tryd.zeroValue29 rfl Zva.out (by omega) (by omega) ?_
    refine hK2.out _ _ (show Gr w10 _ from (by repeat (first | exact Gr.refl _ | (refine Gr.step ?_ (by assumption)) | (refine Gr.alloc ?_ _) | (refine Gr.drew ?_)))) (fun hHeld2 => ?_)
    clear hK2 K2
    try simp only [Act.put, List.getElem_toArray, List.getElem_cons_zero, List.getElem_cons_succ, List.setIfInBounds_toArray, List.set_cons_zero, List.set_cons_succ]
    refine wpAnyH_ready (rs := [43]) (by kernel_rfl) (by simp) ?_
    refine AllReadyH.cons (i := 43) rfl (fun K2 hK2 => ?_) AllReadyH.nil
    go_simp
    go_at_call 16
    refine (HVERA.out _ _ ((w13.alloc (.cells vb 29)).alloc (.cells va 29)) (show Env B a ((w13.alloc (.cells vb 29)).alloc (.cells va 29)) from HE.out.step (by repeat (first | exact Gr.refl _ | (refine Gr.step ?_ (by assumption)) | (refine Gr.alloc ?_ _) | (refine Gr.drew ?_)))) (two_hin w13 vb va hb ha HL.out.2.1 HL.out.1 Hb.out Ha.out).2 (two_hin w13 vb va hb ha HL.out.2.1 HL.out.1 Hb.out Ha.out).1).mono ?_
    rintro ev w16 ⟨rfl, b16⟩
    try go_wp2_with fail
    refine hK2.out _ _ (show Gr w10 _ from (by repeat (first | exact Gr.refl _ | (refine Gr.step ?_ (by assumption)) | (refine Gr.alloc ?_ _) | (refine Gr.drew ?_)))) (fun hHeld2 => ?_)
    clear hK2 K2
    try simp only [Act.put, List.getElem_toArray, List.getElem_cons_zero, List.getElem_cons_succ, List.setIfInBounds_toArray, List.set_cons_zero, List.set_cons_succ]
    refine wpAnyH_ready (rs := [44]) (by kernel_rfl) (by simp) ?_
    refine AllReadyH.cons (i := 44) rfl (fun K2 hK2 => ?_) AllReadyH.nil
    go_simp
    go_at_call 21
    refine (is_sent a B 10 w16 (show Env B a w16 from HE.out.step (by repeat (first | exact Gr.refl _ | (refine Gr.step ?_ (by assumption)) | (refine Gr.alloc ?_ _) | (refine Gr.drew ?_)))).laid (by omega) (by omega)).mono ?_
    rintro ev w17 ⟨rfl, b17⟩
    try go_wp2_with fail
    refine hK2.out _ _ (show Gr w10 _ from (by repeat (first | exact Gr.refl _ | (refine Gr.step ?_ (by assumption)) | (refine Gr.alloc ?_ _) | (refine Gr.drew ?_)))) (fun hHeld2 => ?_)
    clear hK2 K2
    try simp only [Act.put, List.getElem_toArray, List.getElem_cons_zero, List.getElem_cons_succ, List.setIfInBounds_toArray, List.set_cons_zero, List.set_cons_succ]
    refine wpAnyH_take (i := 45) (v := ?tv42) rfl (by kernel_rfl) (by kernel_rfl) (by kernel_rfl) (fun _ _ _ h => h) (Or.inl ⟨by rfl, ?ty42⟩) (by assumption) ?tr42
    case ty42 => (intro w hSw; (try dsimp only at hSw); go_simp; (try with_reducible rfl))
    try simp only [Act.put, List.getElem_toArray, List.getElem_cons_zero, List.getElem_cons_succ, List.setIfInBounds_toArray, List.set_cons_zero, List.set_cons_succ]
    refine wpAnyH_take (i := 46) (v := ?tv43) rfl (by kernel_rfl) (by kernel_rfl) (by kernel_rfl) (fun _ _ _ h => h) (Or.inl ⟨by rfl, ?ty43⟩) (by assumption) ?tr43
    case ty43 => (intro w hSw; (try dsimp only at hSw); go_simp; (try with_reducible rfl))
    try simp only [Act.put, List.getElem_toArray, List.getElem_cons_zero, List.getElem_cons_succ, List.setIfInBounds_toArray, List.set_cons_zero]
    refine wpAnyH_done (by kernel_rfl) ?_ _
    go_wp2
    go_ret
    exact ⟨rfl, show Gr w _ from (by repeat (first | exact Gr.refl _ | (refine Gr.step ?_ (by assumption)) | (refine Gr.alloc ?_ _) | (refine Gr.drew ?_)))⟩
  
  exact AllReadyH.nil
end Go.Proofs.YtmfngcnmacjbfaaDoor
