/- cartularylaw08.lives answers true. Condition: the package-level variables read as listed. -/
import Derived.Test.YtmfngcnmacjbfaaDoorNaiveGrown
import Derived.Test.YtmfngcnmacjbfaaDoorSameHashes
import Derived.Deep.MidRow
namespace Go.Proofs.YtmfngcnmacjbfaaDoor
open Go.ChangeShapes Go.WideShapes Go.ChangeAt Go.RowKit
set_option linter.unusedVariables false
def l3 : List ByteArray := [⟨#[97]⟩, ⟨#[98]⟩, ⟨#[99]⟩]
theorem l3_kept : keptL l3 = l3 := by unfold keptL; rfl
theorem blw3 : blwI (3 - 0) = 2 := by decide +kernel
theorem blw2 : blwI (0 + 2 - 0) = 1 := by decide +kernel
theorem l3_root : treeB l3 0 3 = nodeH (nodeH (leafH ⟨#[97]⟩) (leafH ⟨#[98]⟩)) (leafH ⟨#[99]⟩) := by
  unfold treeB
  rw [if_neg (by omega), treeT_node nodeH _ 0 3 (by omega) (by rw [pow2_64]; omega), blw3, treeT_node nodeH _ 0 (0 + 2) (by omega) (by rw [pow2_64]; omega), blw2, treeT_leaf nodeH _ 0 (0 + 1) (by omega), treeT_leaf nodeH _ (0 + 1) (0 + 2) (by omega), treeT_leaf nodeH _ (0 + 2) 3 (by omega)]
  rfl
theorem l3_path : treesB l3 (pathL 64 0 0 3) = [leafH ⟨#[98]⟩, leafH ⟨#[99]⟩] := by
  have e : pathL 64 0 0 3 = [(1, 2), (2, 3)] := by
    rw [pathL, if_neg (by omega), blw3, if_pos (by omega), pathL, if_neg (by omega), blw2, if_pos (by omega), pathL, if_pos (by omega)]; rfl
  rw [e]
  unfold treesB treeB
  rw [List.map_cons, List.map_cons, List.map_nil, if_neg (by simp), if_neg (by simp), treeT_leaf nodeH _ _ _ (by simp), treeT_leaf nodeH _ _ _ (by simp)]
  rfl
set_option maxRecDepth 100000 in
set_option maxHeartbeats 8000000 in
theorem lives_any (a : Nat → Addr) (B : Nat) (w : World) (hE : Env B a w) : Calls Tryd.prog 27 #[] w fun ev w' => ev = .returned (.bool true) ∧ Below w.heap.size w w' := by
  have HE := Lib.hid hE
  clear hE
  have la := leafH_length ⟨#[97]⟩
  have lb := leafH_length ⟨#[98]⟩
  have lc := leafH_length ⟨#[99]⟩
  have hfa : ∀ w, Env B a w → _ := fun w h => hleaf_any ⟨#[97]⟩ w (by decide) h.tab
  have hfb : ∀ w, Env B a w → _ := fun w h => hleaf_any ⟨#[98]⟩ w (by decide) h.tab
  have hfc : ∀ w, Env B a w → _ := fun w h => hleaf_any ⟨#[99]⟩ w (by decide) h.tab
  have hroot := l3_root
  have hpath := l3_path
  obtain ⟨ha, hha⟩ : ∃ h, leafH ⟨#[97]⟩ = h := ⟨_, rfl⟩
  obtain ⟨hb, hhb⟩ : ∃ h, leafH ⟨#[98]⟩ = h := ⟨_, rfl⟩
  obtain ⟨hc, hhc⟩ : ∃ h, leafH ⟨#[99]⟩ = h := ⟨_, rfl⟩
  rw [hha] at la hfa hroot
  rw [hhb] at lb hfb hroot hpath
  rw [hhc] at lc hfc hroot hpath
  have lab := nodeH_length ha hb
  have hnab : ∀ w, Env B a w → _ := fun w h => hnode_any ha hb w la lb h.tab
  obtain ⟨hab, hhab⟩ : ∃ h, nodeH ha hb = h := ⟨_, rfl⟩
  rw [hhab] at lab hnab hroot
  have lr := nodeH_length hab hc
  have hnr : ∀ w, Env B a w → _ := fun w h => hnode_any hab hc w lab lc h.tab
  obtain ⟨hr, hhr⟩ : ∃ h, nodeH hab hc = h := ⟨_, rfl⟩
  rw [hhr] at lr hnr hroot
  obtain ⟨va, ea, Ha, Zva, Iva, Ova⟩ := row_of ha la
  obtain ⟨vb, eb, Hb, Zvb, Ivb, Ovb⟩ := row_of hb lb
  obtain ⟨vc, ec, Hc, Zvc, Ivc, Ovc⟩ := row_of hc lc
  obtain ⟨vab, eab, Hab, Zvab, Ivab, Ovab⟩ := row_of hab lab
  obtain ⟨vr, er, Hr, Zvr, Ivr, Ovr⟩ := row_of hr lr
  rw [ea] at hfa
  rw [eb] at hfb
  rw [ec] at hfc
  rw [ea, eb, eab] at hnab
  rw [eab, ec, er] at hnr
  have HFa := Lib.hid hfa
  have HFb := Lib.hid hfb
  have HFc := Lib.hid hfc
  have HFab := Lib.hid hnab
  have HFr := Lib.hid hnr
  have hqrr : ∀ w, (Op.equalIn 10000 29 (.agg vr) (.agg vr)).run Tryd.prog w = .ok true w := fun w => by rw [eq_hash hr hr lr lr vr vr er er w]; simp
  obtain ⟨pb, hpb⟩ : ∃ p, bytesV hb = p := ⟨_, rfl⟩
  obtain ⟨pc, hpc⟩ : ∃ p, bytesV hc = p := ⟨_, rfl⟩
  have hqbb : ∀ w, (Op.equalIn 10000 29 (.agg pb.toArray) (.agg vb)).run Tryd.prog w = .ok true w := fun w => by rw [eq_hash hb hb lb lb _ vb (by rw [hv, hpb]) eb w]; simp
  have hqcc : ∀ w, (Op.equalIn 10000 29 (.agg pc.toArray) (.agg vc)).run Tryd.prog w = .ok true w := fun w => by rw [eq_hash hc hc lc lc _ vc (by rw [hv, hpc]) ec w]; simp
  have Ib := Lib.hid (show (Tryd.prog.info? 29).map (·.size) = some pb.length by rw [← hpb, bytesV_length, lb]; kernel_rfl)
  have Ic := Lib.hid (show (Tryd.prog.info? 29).map (·.size) = some pc.length by rw [← hpc, bytesV_length, lc]; kernel_rfl)
  have HP := Lib.hid (And.intro hpb hpc)
  have HQ := Lib.hid (And.intro hqrr (And.intro hqbb hqcc))
  have HROOT : Hid (∀ base b v w, Env B a w → LogAt base b v l3 w → Calls Tryd.prog 37 #[.pointer (some ⟨b, 0, none⟩), .int .u64 3] w fun ev w' => ev = .returned (.tuple #[.agg vr, .nilIface]) ∧ Below w.heap.size w w') := Lib.hid (fun base b v w h1 h2 => by
    have := lroot_ok a B base b v l3 3 w h1 h2 (by omega) (by decide)
    rw [hroot, er] at this; exact this)
  have HPATH : Hid (∀ base b v w, Env B a w → LogAt base b v l3 w → Calls Tryd.prog 38 #[.pointer (some ⟨b, 0, none⟩), .int .u64 0, .int .u64 3] w (HashesPost w [hb, hc])) := Lib.hid (fun base b v w h1 h2 => by
    have := lpath_ok a B base b v l3 0 3 w h1 h2 (by omega) (by omega) (by decide)
    rw [hpath] at this; exact this)
  have HPBAD : Hid (∀ base b v w, Env B a w → LogAt base b v l3 w → Calls Tryd.prog 38 #[.pointer (some ⟨b, 0, none⟩), .int .u64 3, .int .u64 3] w (FailPost (errV a 5) w)) := Lib.hid (fun base b v w h1 h2 =>
    lpath_bad a B base b v l3 3 3 w h1 h2 (by omega) (by omega) (by omega) (by omega) (.inr (by omega)))
  clear hroot hpath hha hhb hhc hhab hhr hfa hfb hfc hnab hnr ea eb ec eab er hqrr hqbb hqcc hpb hpc la lb lc lab lr
  have HSIN : Hid (SIn (w.alloc (.cells #[.string ⟨#[97]⟩, .string ⟨#[98]⟩, .string ⟨#[99]⟩] 9)) (some ⟨w.heap.size, 0, none⟩) 3 3 l3) := Lib.hid ⟨rfl, by omega, by omega, by intro s hs; simp [l3] at hs; rcases hs with rfl | rfl | rfl <;> decide, by omega, .inr ⟨_, _, rfl, fun j u hu => by
    rw [Nat.zero_add]
    refine cell_new _ _ j u ?_
    match j, hu with
    | 0, hu => exact hu
    | 1, hu => exact hu
    | 2, hu => exact hu
    | j + 3, hu => simp [l3] at hu⟩⟩
  have b0 : Gr w (w.alloc (.cells #[.string ⟨#[97]⟩, .string ⟨#[98]⟩, .string ⟨#[99]⟩] 9)) := (Gr.refl w).alloc _
  obtain ⟨w0, hw0⟩ : ∃ w0, (w.alloc (.cells #[.string ⟨#[97]⟩, .string ⟨#[98]⟩, .string ⟨#[99]⟩] 9)) = w0 := ⟨_, rfl⟩
  rw [hw0] at HSIN b0
  have HW0 := Lib.hid hw0
  have b0 : Below w.heap.size w w0 := b0
  clear hw0
  go_enter Tryd.func27, Tryd.ntmps27
  go_wp2_with fail
  rw [HW0.out]
  refine (grown_any a B l3 _ 3 3 w0 (show Env B a w0 from HE.out.step (show Gr w w0 from (by repeat (first | exact Gr.refl _ | (refine Gr.step ?_ (by assumption)) | (refine Gr.alloc ?_ _) | (refine Gr.drew ?_))))) HSIN.out (by omega)).mono ?_
  rintro ev w1 ⟨b, v, rfl, hL1, b1⟩
  rw [l3_kept] at hL1 ⊢
  have HL1 := Lib.hid hL1
  clear hL1
  have hk3 : l3.length = 3 := rfl
  rw [hk3]
  go_wp2_with fail
  refine (HROOT.out _ b v w1 (show Env B a w1 from HE.out.step (show Gr w w1 from (by repeat (first | exact Gr.refl _ | (refine Gr.step ?_ (by assumption)) | (refine Gr.alloc ?_ _) | (refine Gr.drew ?_))))) HL1.out).mono ?_
  rintro ev w2 ⟨rfl, b2⟩
  go_upto_region 5 with (refine wpList_store_row_any rfl 29 _ _ rfl w2.heap.size vr rfl rfl 29 _ (heap_at _ _ _ rfl) Ivr.out (by rw [Zvr.out]; rfl) Ovr.out ?_; intro w3 hbN hgN hsN; have b3 : Below w2.heap.size w2 w3 := ((Below.refl _ w2).alloc (Nat.le_refl _) _).trans (hbN.to_below (by simp) (fun k hk q => by omega)); have R3 := Lib.hid hgN; clear hbN hgN hsN)
  go_wp2_with fail
  refine (HPATH.out _ b v w3 (show Env B a w3 from HE.out.step (show Gr w w3 from (by repeat (first | exact Gr.refl _ | (refine Gr.step ?_ (by assumption)) | (refine Gr.alloc ?_ _) | (refine Gr.drew ?_))))) (HL1.out.below (show Gr w1 w3 from (by repeat (first | exact Gr.refl _ | (refine Gr.step ?_ (by assumption)) | (refine Gr.alloc ?_ _) | (refine Gr.drew ?_)))))).mono ?_
  rintro ev w4 ⟨hp32, v4, rfl, ho4, b4⟩
  obtain ⟨A4, c4, rfl, hc4⟩ := own_shape ho4
  have H4 := own_hin ho4 hp32 rfl
  obtain ⟨g, o0, rfl, hg4, rb, _⟩ := H4.row (k := 0) rfl
  obtain ⟨g', o', e', _, rc, _⟩ := H4.row (k := 1) rfl
  cases e'
  rw [HP.out.1] at rb
  rw [HP.out.2] at rc
  have RB := Lib.hid (And.intro rb rc)
  clear ho4 hp32 H4 rb rc
  simp only [List.length_cons, List.length_nil, Nat.zero_add, Nat.reduceAdd] at hc4 ⊢
  go_wp2_with fail
  refine (HPBAD.out _ b v w4 (show Env B a w4 from HE.out.step (show Gr w w4 from (by repeat (first | exact Gr.refl _ | (refine Gr.step ?_ (by assumption)) | (refine Gr.alloc ?_ _) | (refine Gr.drew ?_))))) (HL1.out.below (show Gr w1 w4 from (by repeat (first | exact Gr.refl _ | (refine Gr.step ?_ (by assumption)) | (refine Gr.alloc ?_ _) | (refine Gr.drew ?_)))))).mono ?_
  rintro ev w5 ⟨rfl, b5⟩
  have KR : Hid (∀ w', Gr w5 w' → w'.heap[w2.heap.size]? = some (.cells vr 29 (0, 0))) := Lib.hid (fun w' h => by
    have hl := (Array.getElem?_eq_some_iff.1 R3.out).1
    have hb := (b4.trans (b5.mono b4.size)).trans (Below.mono h (Nat.le_trans b4.size b5.size))
    exact (hb.block _ hl).trans R3.out)
  have Kb : Hid (∀ w', Gr w5 w' → w'.rangeAt g (o0 + 0 * 32) pb) := Lib.hid (fun w' h => rangeAt_below (b5.trans (Below.mono h b5.size)) RB.out.1 hg4)
  have Kc : Hid (∀ w', Gr w5 w' → w'.rangeAt g (o0 + 1 * 32) pc) := Lib.hid (fun w' h => rangeAt_below (b5.trans (Below.mono h b5.size)) RB.out.2 hg4)
  have hqrr := HQ.out.1
  have hqbb := HQ.out.2.1
  have hqcc := HQ.out.2.2
  unfold errV
  go_wp2_with fail
  refine wp_region_held_drew (S := Gr w5) (by kernel_rfl) ((Gr.refl _).drew) (fun hHeld => ?_)
  refine wpAnyH_take (i := 0) (v := ?tv1) rfl (by kernel_rfl) (by kernel_rfl) (by kernel_rfl) (fun _ _ _ h => h) (Or.inl ⟨by rfl, ?ty1⟩) (by assumption) ?tr1
  case ty1 => (intro w hSw; (try dsimp only at hSw); go_simp; (try with_reducible rfl))
  try simp only [Act.put, List.getElem_toArray, List.getElem_cons_zero, List.setIfInBounds_toArray, List.set_cons_zero, List.set_cons_succ]
  refine wpAnyH_take (i := 1) (v := ?tv2) rfl (by kernel_rfl) (by kernel_rfl) (by kernel_rfl) (fun _ _ _ h => h) (Or.inl ⟨by rfl, ?ty2⟩) (by assumption) ?tr2
  case ty2 => (intro w hSw; (try dsimp only at hSw); go_simp; (try with_reducible rfl))
  try simp only [Act.put, List.getElem_toArray, List.getElem_cons_zero, List.getElem_cons_succ, List.setIfInBounds_toArray, List.set_cons_zero, List.set_cons_succ]
  refine wpAnyH_take (i := 2) (v := ?tv3) rfl (by kernel_rfl) (by kernel_rfl) (by kernel_rfl) (fun _ _ _ h => h) (Or.inl ⟨by rfl, ?ty3⟩) (by assumption) ?tr3
  case ty3 => (intro w hSw; (try dsimp only at hSw); go_simp; (try with_reducible rfl))
  try simp only [Act.put, List.getElem_toArray, List.getElem_cons_zero, List.getElem_cons_succ, List.setIfInBounds_toArray, List.set_cons_zero, List.set_cons_succ]
  refine wpAnyH_take (i := 3) (v := _) rfl (by kernel_rfl) (by kernel_rfl) (by kernel_rfl) (fun _ _ _ h => h) (yieldsIf_load_row (by rfl) 29 _ (by rfl) _ (by rfl) 29 vr (0, 0) _ (fun w h => KR.out w h) Tryd.underlying29 rfl Ivr.out) (by assumption) ?_
  try simp only [Act.put, List.getElem_toArray, List.getElem_cons_zero, List.getElem_cons_succ, List.setIfInBounds_toArray, List.set_cons_zero, List.set_cons_succ]
  refine wpAnyH_ready (rs := [4]) (by kernel_rfl) (by simp) ?_
  refine AllReadyH.cons (i := 4) rfl (fun K2 hK2 => ?_) AllReadyH.nil
  go_simp
  go_at_call 30
  refine (HFa.out w5.drew (show Env B a w5.drew from HE.out.step (show Gr w w5.drew from (by repeat (first | exact Gr.refl _ | (refine Gr.step ?_ (by assumption)) | (refine Gr.alloc ?_ _) | (refine Gr.drew ?_)))))).mono ?_
  rintro ev w101 ⟨rfl, b101⟩
  try go_wp2_with fail
  refine hK2.out _ _ (show Gr w5 _ from (by repeat (first | exact Gr.refl _ | (refine Gr.step ?_ (by assumption)) | (refine Gr.alloc ?_ _) | (refine Gr.drew ?_)))) (fun hHeld2 => ?_)
  clear hK2 K2
  try simp only [Act.put, List.getElem_toArray, List.getElem_cons_zero, List.getElem_cons_succ, List.setIfInBounds_toArray, List.set_cons_zero, List.set_cons_succ]
  refine wpAnyH_ready (rs := [5]) (by kernel_rfl) (by simp) ?_
  refine AllReadyH.cons (i := 5) rfl (fun K2 hK2 => ?_) AllReadyH.nil
  go_simp
  go_at_call 30
  refine (HFb.out w101 (show Env B a w101 from HE.out.step (show Gr w w101 from (by repeat (first | exact Gr.refl _ | (refine Gr.step ?_ (by assumption)) | (refine Gr.alloc ?_ _) | (refine Gr.drew ?_)))))).mono ?_
  rintro ev w102 ⟨rfl, b102⟩
  try go_wp2_with fail
  refine hK2.out _ _ (show Gr w5 _ from (by repeat (first | exact Gr.refl _ | (refine Gr.step ?_ (by assumption)) | (refine Gr.alloc ?_ _) | (refine Gr.drew ?_)))) (fun hHeld2 => ?_)
  clear hK2 K2
  try simp only [Act.put, List.getElem_toArray, List.getElem_cons_zero, List.getElem_cons_succ, List.setIfInBounds_toArray, List.set_cons_zero, List.set_cons_succ]
  refine wpAnyH_ready (rs := [6]) (by kernel_rfl) (by simp) ?_
  refine AllReadyH.cons (i := 6) rfl (fun K2 hK2 => ?_) AllReadyH.nil
  go_simp
  go_at_call 32
  refine (HFab.out w102 (show Env B a w102 from HE.out.step (show Gr w w102 from (by repeat (first | exact Gr.refl _ | (refine Gr.step ?_ (by assumption)) | (refine Gr.alloc ?_ _) | (refine Gr.drew ?_)))))).mono ?_
  rintro ev w103 ⟨rfl, b103⟩
  try go_wp2_with fail
  refine hK2.out _ _ (show Gr w5 _ from (by repeat (first | exact Gr.refl _ | (refine Gr.step ?_ (by assumption)) | (refine Gr.alloc ?_ _) | (refine Gr.drew ?_)))) (fun hHeld2 => ?_)
  clear hK2 K2
  try simp only [Act.put, List.getElem_toArray, List.getElem_cons_zero, List.getElem_cons_succ, List.setIfInBounds_toArray, List.set_cons_zero, List.set_cons_succ]
  refine wpAnyH_ready (rs := [7]) (by kernel_rfl) (by simp) ?_
  refine AllReadyH.cons (i := 7) rfl (fun K2 hK2 => ?_) AllReadyH.nil
  go_simp
  go_at_call 30
  refine (HFc.out w103 (show Env B a w103 from HE.out.step (show Gr w w103 from (by repeat (first | exact Gr.refl _ | (refine Gr.step ?_ (by assumption)) | (refine Gr.alloc ?_ _) | (refine Gr.drew ?_)))))).mono ?_
  rintro ev w104 ⟨rfl, b104⟩
  try go_wp2_with fail
  refine hK2.out _ _ (show Gr w5 _ from (by repeat (first | exact Gr.refl _ | (refine Gr.step ?_ (by assumption)) | (refine Gr.alloc ?_ _) | (refine Gr.drew ?_)))) (fun hHeld2 => ?_)
  clear hK2 K2
  try simp only [Act.put, List.getElem_toArray, List.getElem_cons_zero, List.getElem_cons_succ, List.setIfInBounds_toArray, List.set_cons_zero, List.set_cons_succ]
  refine wpAnyH_ready (rs := [8]) (by kernel_rfl) (by simp) ?_
  refine AllReadyH.cons (i := 8) rfl (fun K2 hK2 => ?_) AllReadyH.nil
  go_simp
  go_at_call 32
  refine (HFr.out w104 (show Env B a w104 from HE.out.step (show Gr w w104 from (by repeat (first | exact Gr.refl _ | (refine Gr.step ?_ (by assumption)) | (refine Gr.alloc ?_ _) | (refine Gr.drew ?_)))))).mono ?_
  rintro ev w105 ⟨rfl, b105⟩
  try go_wp2_with fail
  refine hK2.out _ _ (show Gr w5 _ from (by repeat (first | exact Gr.refl _ | (refine Gr.step ?_ (by assumption)) | (refine Gr.alloc ?_ _) | (refine Gr.drew ?_)))) (fun hHeld2 => ?_)
  clear hK2 K2
  try simp only [Act.put, List.getElem_toArray, List.getElem_cons_zero, List.getElem_cons_succ, List.setIfInBounds_toArray, List.set_cons_zero, List.set_cons_succ]
  refine wpAnyH_take (i := 9) (v := ?tv5) rfl (by kernel_rfl) (by kernel_rfl) (by kernel_rfl) (fun _ _ _ h => h) (Or.inl ⟨by rfl, ?ty5⟩) (by assumption) ?tr5
  case ty5 => (intro w hSw; (try dsimp only at hSw); go_simp; (try with_reducible rfl))
  try simp only [Act.put, List.getElem_toArray, List.getElem_cons_zero, List.getElem_cons_succ, List.setIfInBounds_toArray, List.set_cons_zero, List.set_cons_succ]
  refine wpAnyH_take (i := 10) (v := ?tv6) rfl (by kernel_rfl) (by kernel_rfl) (by kernel_rfl) (fun _ _ _ h => h) (Or.inl ⟨by rfl, ?ty6⟩) (by assumption) ?tr6
  case ty6 => (intro w hSw; (try dsimp only at hSw); go_simp; (try with_reducible rfl))
  try simp only [Act.put, List.getElem_toArray, List.getElem_cons_zero, List.getElem_cons_succ, List.setIfInBounds_toArray, List.set_cons_zero, List.set_cons_succ]
  refine wpAnyH_take (i := 11) (v := ?tv7) rfl (by kernel_rfl) (by kernel_rfl) (by kernel_rfl) (fun _ _ _ h => h) (Or.inl ⟨by rfl, ?ty7⟩) (by assumption) ?tr7
  case ty7 => (intro w hSw; (try dsimp only at hSw); go_simp; (try with_reducible rfl))
  try simp only [Act.put, List.getElem_toArray, List.getElem_cons_zero, List.getElem_cons_succ, List.setIfInBounds_toArray, List.set_cons_zero, List.set_cons_succ]
  refine wpAnyH_take (i := 12) (v := ?tv8) rfl (by kernel_rfl) (by kernel_rfl) (by kernel_rfl) (fun _ _ _ h => h) (Or.inl ⟨by rfl, ?ty8⟩) (by assumption) ?tr8
  case ty8 => (intro w hSw; (try dsimp only at hSw); go_simp; (try with_reducible rfl))
  try simp only [Act.put, List.getElem_toArray, List.getElem_cons_zero, List.getElem_cons_succ, List.setIfInBounds_toArray, List.set_cons_zero, List.set_cons_succ]
  refine wpAnyH_take (i := 13) (v := ?tv9) rfl (by kernel_rfl) (by kernel_rfl) (by kernel_rfl) (fun _ _ _ h => h) (Or.inl ⟨by rfl, ?ty9⟩) (by assumption) ?tr9
  case ty9 => (intro w hSw; (try dsimp only at hSw); go_simp; (try with_reducible rfl))
  try simp only [Act.put, List.getElem_toArray, List.getElem_cons_zero, List.getElem_cons_succ, List.setIfInBounds_toArray, List.set_cons_zero, List.set_cons_succ]
  refine wpAnyH_take (i := 14) (v := ?tv10) rfl (by kernel_rfl) (by kernel_rfl) (by kernel_rfl) (fun _ _ _ h => h) (Or.inl ⟨by rfl, ?ty10⟩) (by assumption) ?tr10
  case ty10 => (intro w hSw; (try dsimp only at hSw); go_simp; (try with_reducible rfl))
  try simp only [Act.put, List.getElem_toArray, List.getElem_cons_zero, List.getElem_cons_succ, List.setIfInBounds_toArray, List.set_cons_zero, List.set_cons_succ]
  refine wpAnyH_take (i := 15) (v := ?tv11) rfl (by kernel_rfl) (by kernel_rfl) (by kernel_rfl) (fun _ _ _ h => h) (Or.inl ⟨by rfl, ?ty11⟩) (by assumption) ?tr11
  case ty11 => (intro w hSw; (try dsimp only at hSw); go_simp; (try with_reducible rfl))
  try simp only [Act.put, List.getElem_toArray, List.getElem_cons_zero, List.getElem_cons_succ, List.setIfInBounds_toArray, List.set_cons_zero, List.set_cons_succ]
  refine wpAnyH_take (i := 16) (v := ?tv12) rfl (by kernel_rfl) (by kernel_rfl) (by kernel_rfl) (fun _ _ _ h => h) (Or.inl ⟨by rfl, ?ty12⟩) (by assumption) ?tr12
  case ty12 => (intro w hSw; (try dsimp only at hSw); go_simp; (try with_reducible rfl))
  try simp only [Act.put, List.getElem_toArray, List.getElem_cons_zero, List.getElem_cons_succ, List.setIfInBounds_toArray, List.set_cons_zero, List.set_cons_succ]
  refine wpAnyH_take (i := 17) (v := ?tv13) rfl (by kernel_rfl) (by kernel_rfl) (by kernel_rfl) (fun _ _ _ h => h) (Or.inl ⟨by rfl, ?ty13⟩) (by assumption) ?tr13
  case ty13 => (intro w hSw; (try dsimp only at hSw); go_simp; (try with_reducible rfl))
  try simp only [Act.put, List.getElem_toArray, List.getElem_cons_zero, List.getElem_cons_succ, List.setIfInBounds_toArray, List.set_cons_zero, List.set_cons_succ]
  refine wpAnyH_take (i := 18) (v := ?tv14) rfl (by kernel_rfl) (by kernel_rfl) (by kernel_rfl) (fun _ _ _ h => h) (Or.inl ⟨by rfl, ?ty14⟩) (by assumption) ?tr14
  case ty14 => (intro w hSw; (try dsimp only at hSw); go_simp; (try with_reducible rfl))
  try simp only [Act.put, List.getElem_toArray, List.getElem_cons_zero, List.getElem_cons_succ, List.setIfInBounds_toArray, List.set_cons_zero, List.set_cons_succ]
  refine wpAnyH_take (i := 19) (v := ?tv15) rfl (by kernel_rfl) (by kernel_rfl) (by kernel_rfl) (fun _ _ _ h => h) (Or.inl ⟨by rfl, ?ty15⟩) (by assumption) ?tr15
  case ty15 => (intro w hSw; (try dsimp only at hSw); go_simp; (try with_reducible rfl))
  try simp only [Act.put, List.getElem_toArray, List.getElem_cons_zero, List.getElem_cons_succ, List.setIfInBounds_toArray, List.set_cons_zero, List.set_cons_succ]
  refine wpAnyH_take (i := 20) (v := ?tv16) rfl (by kernel_rfl) (by kernel_rfl) (by kernel_rfl) (fun _ _ _ h => h) (Or.inl ⟨by rfl, ?ty16⟩) (by assumption) ?tr16
  case ty16 => (intro w hSw; (try dsimp only at hSw); go_simp; (try with_reducible rfl))
  try simp only [Act.put, List.getElem_toArray, List.getElem_cons_zero, List.getElem_cons_succ, List.setIfInBounds_toArray, List.set_cons_zero, List.set_cons_succ]
  refine wpAnyH_take (i := 21) (v := ?tv17) rfl (by kernel_rfl) (by kernel_rfl) (by kernel_rfl) (fun _ _ _ h => h) (Or.inl ⟨by rfl, ?ty17⟩) (by assumption) ?tr17
  case ty17 => (intro w hSw; (try dsimp only at hSw); go_simp; (try with_reducible rfl))
  try simp only [Act.put, List.getElem_toArray, List.getElem_cons_zero, List.getElem_cons_succ, List.setIfInBounds_toArray, List.set_cons_zero, List.set_cons_succ]
  refine wpAnyH_take (i := 22) (v := ?tv18) rfl (by kernel_rfl) (by kernel_rfl) (by kernel_rfl) (fun _ _ _ h => h) (Or.inl ⟨by rfl, ?ty18⟩) (by assumption) ?tr18
  case ty18 => (intro w hSw; (try dsimp only at hSw); go_simp; (try with_reducible rfl))
  try simp only [Act.put, List.getElem_toArray, List.getElem_cons_zero, List.getElem_cons_succ, List.setIfInBounds_toArray, List.set_cons_zero, List.set_cons_succ]
  refine wpAnyH_take (i := 23) (v := _) rfl (by kernel_rfl) (by kernel_rfl) (by kernel_rfl) (fun _ _ _ h => h) (yieldsIf_load_mid (by rfl) 29 _ (by rfl) g (o0 + 0 * 32) (by first | rfl | simp) pb _ (fun w h => Kb.out w h) Tryd.underlying29 (by rfl) Ib.out) (by assumption) ?_
  try simp only [Act.put, List.getElem_toArray, List.getElem_cons_zero, List.getElem_cons_succ, List.setIfInBounds_toArray, List.set_cons_zero, List.set_cons_succ]
  refine wpAnyH_ready (rs := [24]) (by kernel_rfl) (by simp) ?_
  refine AllReadyH.cons (i := 24) rfl (fun K2 hK2 => ?_) AllReadyH.nil
  go_simp
  go_at_call 30
  refine (HFb.out w105 (show Env B a w105 from HE.out.step (show Gr w w105 from (by repeat (first | exact Gr.refl _ | (refine Gr.step ?_ (by assumption)) | (refine Gr.alloc ?_ _) | (refine Gr.drew ?_)))))).mono ?_
  rintro ev w106 ⟨rfl, b106⟩
  try go_wp2_with fail
  refine hK2.out _ _ (show Gr w5 _ from (by repeat (first | exact Gr.refl _ | (refine Gr.step ?_ (by assumption)) | (refine Gr.alloc ?_ _) | (refine Gr.drew ?_)))) (fun hHeld2 => ?_)
  clear hK2 K2
  try simp only [Act.put, List.getElem_toArray, List.getElem_cons_zero, List.getElem_cons_succ, List.setIfInBounds_toArray, List.set_cons_zero, List.set_cons_succ]
  refine wpAnyH_take (i := 25) (v := ?tv20) rfl (by kernel_rfl) (by kernel_rfl) (by kernel_rfl) (fun _ _ _ h => h) (Or.inl ⟨by rfl, ?ty20⟩) (by assumption) ?tr20
  case ty20 => (intro w hSw; (try dsimp only at hSw); go_simp; (try with_reducible rfl))
  try simp only [Act.put, List.getElem_toArray, List.getElem_cons_zero, List.getElem_cons_succ, List.setIfInBounds_toArray, List.set_cons_zero, List.set_cons_succ]
  refine wpAnyH_take (i := 26) (v := ?tv21) rfl (by kernel_rfl) (by kernel_rfl) (by kernel_rfl) (fun _ _ _ h => h) (Or.inl ⟨by rfl, ?ty21⟩) (by assumption) ?tr21
  case ty21 => (intro w hSw; (try dsimp only at hSw); go_simp; (try with_reducible rfl))
  try simp only [Act.put, List.getElem_toArray, List.getElem_cons_zero, List.getElem_cons_succ, List.setIfInBounds_toArray, List.set_cons_zero, List.set_cons_succ]
  refine wpAnyH_take (i := 27) (v := ?tv22) rfl (by kernel_rfl) (by kernel_rfl) (by kernel_rfl) (fun _ _ _ h => h) (Or.inl ⟨by rfl, ?ty22⟩) (by assumption) ?tr22
  case ty22 => (intro w hSw; (try dsimp only at hSw); go_simp; (try with_reducible rfl))
  try simp only [Act.put, List.getElem_toArray, List.getElem_cons_zero, List.getElem_cons_succ, List.setIfInBounds_toArray, List.set_cons_zero, List.set_cons_succ]
  refine wpAnyH_take (i := 28) (v := ?tv23) rfl (by kernel_rfl) (by kernel_rfl) (by kernel_rfl) (fun _ _ _ h => h) (Or.inl ⟨by rfl, ?ty23⟩) (by assumption) ?tr23
  case ty23 => (intro w hSw; (try dsimp only at hSw); go_simp; (try with_reducible rfl))
  try simp only [Act.put, List.getElem_toArray, List.getElem_cons_zero, List.getElem_cons_succ, List.setIfInBounds_toArray, List.set_cons_zero, List.set_cons_succ]
  refine wpAnyH_take (i := 29) (v := ?tv24) rfl (by kernel_rfl) (by kernel_rfl) (by kernel_rfl) (fun _ _ _ h => h) (Or.inl ⟨by rfl, ?ty24⟩) (by assumption) ?tr24
  case ty24 => (intro w hSw; (try dsimp only at hSw); go_simp; (try with_reducible rfl))
  try simp only [Act.put, List.getElem_toArray, List.getElem_cons_zero, List.getElem_cons_succ, List.setIfInBounds_toArray, List.set_cons_zero, List.set_cons_succ]
  refine wpAnyH_take (i := 30) (v := _) rfl (by kernel_rfl) (by kernel_rfl) (by kernel_rfl) (fun _ _ _ h => h) (yieldsIf_load_mid (by rfl) 29 _ (by rfl) g (o0 + 1 * 32) (by first | rfl | simp) pc _ (fun w h => Kc.out w h) Tryd.underlying29 (by rfl) Ic.out) (by assumption) ?_
  try simp only [Act.put, List.getElem_toArray, List.getElem_cons_zero, List.getElem_cons_succ, List.setIfInBounds_toArray, List.set_cons_zero, List.set_cons_succ]
  refine wpAnyH_ready (rs := [31]) (by kernel_rfl) (by simp) ?_
  refine AllReadyH.cons (i := 31) rfl (fun K2 hK2 => ?_) AllReadyH.nil
  go_simp
  go_at_call 30
  refine (HFc.out w106 (show Env B a w106 from HE.out.step (show Gr w w106 from (by repeat (first | exact Gr.refl _ | (refine Gr.step ?_ (by assumption)) | (refine Gr.alloc ?_ _) | (refine Gr.drew ?_)))))).mono ?_
  rintro ev w107 ⟨rfl, b107⟩
  try go_wp2_with fail
  refine hK2.out _ _ (show Gr w5 _ from (by repeat (first | exact Gr.refl _ | (refine Gr.step ?_ (by assumption)) | (refine Gr.alloc ?_ _) | (refine Gr.drew ?_)))) (fun hHeld2 => ?_)
  clear hK2 K2
  try simp only [Act.put, List.getElem_toArray, List.getElem_cons_zero, List.getElem_cons_succ, List.setIfInBounds_toArray, List.set_cons_zero, List.set_cons_succ]
  refine wpAnyH_take (i := 32) (v := ?tv26) rfl (by kernel_rfl) (by kernel_rfl) (by kernel_rfl) (fun _ _ _ h => h) (Or.inl ⟨by rfl, ?ty26⟩) (by assumption) ?tr26
  case ty26 => (intro w hSw; (try dsimp only at hSw); go_simp; (try with_reducible rfl))
  try simp only [Act.put, List.getElem_toArray, List.getElem_cons_zero, List.getElem_cons_succ, List.setIfInBounds_toArray, List.set_cons_zero, List.set_cons_succ]
  refine wpAnyH_take (i := 33) (v := ?tv27) rfl (by kernel_rfl) (by kernel_rfl) (by kernel_rfl) (fun _ _ _ h => h) (Or.inl ⟨by rfl, ?ty27⟩) (by assumption) ?tr27
  case ty27 => (intro w hSw; (try dsimp only at hSw); go_simp; (try with_reducible rfl))
  try simp only [Act.put, List.getElem_toArray, List.getElem_cons_zero, List.getElem_cons_succ, List.setIfInBounds_toArray, List.set_cons_zero, List.set_cons_succ]
  refine wpAnyH_take (i := 34) (v := ?tv28) rfl (by kernel_rfl) (by kernel_rfl) (by kernel_rfl) (fun _ _ _ h => h) (Or.inl ⟨by rfl, ?ty28⟩) (by assumption) ?tr28
  case ty28 => (intro w hSw; (try dsimp only at hSw); go_simp; (try with_reducible rfl))
  try simp only [Act.put, List.getElem_toArray, List.getElem_cons_zero, List.getElem_cons_succ, List.setIfInBounds_toArray, List.set_cons_zero, List.set_cons_succ]
  refine wpAnyH_take (i := 35) (v := ?tv29) rfl (by kernel_rfl) (by kernel_rfl) (by kernel_rfl) (fun _ _ _ h => h) (Or.inl ⟨by rfl, ?ty29⟩) (by assumption) ?tr29
  case ty29 => (intro w hSw; (try dsimp only at hSw); go_simp; (try with_reducible rfl))
  try simp only [Act.put, List.getElem_toArray, List.getElem_cons_zero, List.getElem_cons_succ, List.setIfInBounds_toArray, List.set_cons_zero, List.set_cons_succ]
  refine wpAnyH_ready (rs := [36]) (by kernel_rfl) (by simp) ?_
  refine AllReadyH.cons (i := 36) rfl (fun K2 hK2 => ?_) AllReadyH.nil
  go_simp
  go_at_call 21
  refine (is_sent a B 5 w107 (show Env B a w107 from HE.out.step (show Gr w w107 from (by repeat (first | exact Gr.refl _ | (refine Gr.step ?_ (by assumption)) | (refine Gr.alloc ?_ _) | (refine Gr.drew ?_))))).laid (by omega) (by omega)).mono ?_
  rintro ev w108 ⟨rfl, b108⟩
  try go_wp2_with fail
  refine hK2.out _ _ (show Gr w5 _ from (by repeat (first | exact Gr.refl _ | (refine Gr.step ?_ (by assumption)) | (refine Gr.alloc ?_ _) | (refine Gr.drew ?_)))) (fun hHeld2 => ?_)
  clear hK2 K2
  try simp only [Act.put, List.getElem_toArray, List.getElem_cons_zero, List.getElem_cons_succ, List.setIfInBounds_toArray, List.set_cons_zero, List.set_cons_succ]
  refine wpAnyH_take (i := 37) (v := ?tv30) rfl (by kernel_rfl) (by kernel_rfl) (by kernel_rfl) (fun _ _ _ h => h) (Or.inl ⟨by rfl, ?ty30⟩) (by assumption) ?tr30
  case ty30 => (intro w hSw; (try dsimp only at hSw); go_simp; (try with_reducible rfl))
  try simp only [Act.put, List.getElem_toArray, List.getElem_cons_zero, List.getElem_cons_succ, List.setIfInBounds_toArray, List.set_cons_zero, List.set_cons_succ]
  refine wpAnyH_take (i := 38) (v := ?tv31) rfl (by kernel_rfl) (by kernel_rfl) (by kernel_rfl) (fun _ _ _ h => h) (Or.inl ⟨by rfl, ?ty31⟩) (by assumption) ?tr31
  case ty31 => (intro w hSw; (try dsimp only at hSw); go_simp; (try with_reducible rfl))
  try simp only [Act.put, List.getElem_toArray, List.getElem_cons_zero, List.getElem_cons_succ, List.setIfInBounds_toArray, List.set_cons_zero]
  refine wpAnyH_done (by kernel_rfl) ?_ _
  go_wp2
  go_ret
  exact ⟨rfl, show Gr w _ from (by repeat (first | exact Gr.refl _ | (refine Gr.step ?_ (by assumption)) | (refine Gr.alloc ?_ _) | (refine Gr.drew ?_)))⟩
end Go.Proofs.YtmfngcnmacjbfaaDoor
