/- cartularytop.known19 answers true; verify.Inclusion where the path says another root. Condition: the package-level variables read as listed. -/
import Derived.Test.YtjhlgkjgodjmhaaDoorTopFns
import Derived.Test.YtjhlgkjgodjmhaaDoorVerifyCons
namespace Go.Proofs.YtjhlgkjgodjmhaaDoor
open Go.ChangeShapes Go.WideShapes Go.ChangeAt Go.RowKit
set_option linter.unusedVariables false
set_option maxRecDepth 100000 in
set_option maxHeartbeats 4000000 in
theorem vincl_bad (a : Nat → Addr) (B : Nat) (ix sz : Nat) (h : List UInt8) (ps : List (List UInt8)) (r r2 : List UInt8) (A : Option Addr) (m c : Nat) (w : World) (hE : Env B a w) (hh : h.length = 32) (hr : r.length = 32) (hr2 : r2.length = 32) (hne : r ≠ r2) (hp : HIn w A m c ps) (h1 : ix < sz) (h2 : sz ≤ 9223372036854775808) (hs : Says nodeH ix (sz - 1) h ps r) (hm9 : m ≤ 1000000000) :
    Calls Tryd.prog 13 #[.int .u64 ix, .int .u64 sz, hv h, .slice A m c, hv r2] w fun e w' => e = .returned (errV a 10) ∧ Below w.heap.size w w' := by
  obtain ⟨vh, evh, Hvh, Zvh, Ivh, Ovh⟩ := row_of h hh
  obtain ⟨vr, evr, Hvr, Zvr, Ivr, Ovr⟩ := row_of r hr
  obtain ⟨vs, evs, Hvs, Zvs, Ivs, Ovs⟩ := row_of r2 hr2
  have hB0 : Below w.heap.size w ((w.alloc (.cells vh 33)).alloc (.cells vs 33)) := ((Below.refl _ _).alloc (Nat.le_refl _) _).alloc (by simp) _
  have hR7 : ((w.alloc (.cells vh 33)).alloc (.cells vs 33)).heap[w.heap.size]? = some (.cells vh 33 (0, 0)) := by
    rw [((Below.refl _ (w.alloc (.cells vh 33))).alloc (Nat.le_refl _) _).block w.heap.size (by simp)]; exact heap_at _ _ _ rfl
  have hR9 : ((w.alloc (.cells vh 33)).alloc (.cells vs 33)).heap[w.heap.size + 1]? = some (.cells vs 33 (0, 0)) := heap_at _ _ _ (by simp)
  obtain ⟨wv, hwv⟩ : ∃ wv, (w.alloc (.cells vh 33)).alloc (.cells vs 33) = wv := ⟨_, rfl⟩
  rw [hwv] at hB0 hR7 hR9
  have HROOT : Hid (Calls Tryd.prog 28 #[.int .u64 ix, .int .u64 sz, .agg vh, .slice A m c] wv fun e w' => e = .returned (.tuple #[.agg vr, .nilIface]) ∧ Below wv.heap.size wv w') := Lib.hid (by
    have := vroot_ok a B ix sz h ps r A m c wv (hE.step hB0) hh (hp.below hB0) h1 h2 hs hm9
    rw [evh, evr] at this
    exact this.mono (fun _ _ q => ⟨q.1, q.2.2⟩))
  have hq' : ∀ w, (Op.equalIn 10000 33 (.agg vr) (.agg vs)).run Tryd.prog w = .ok false w := fun w => by rw [eq_hash r r2 hr hr2 vr vs evr evs w]; simp [hne]
  have HWV := Lib.hid hwv
  have HB := Lib.hid hB0
  have R7 := Lib.hid hR7
  have R9 := Lib.hid hR9
  have HE := Lib.hid hE
  rw [evh, evs]
  clear hE hp hs evh evr evs hwv hB0 hR7 hR9 hh hr hr2 hne
  unfold errV
  go_enter Tryd.func13, Tryd.ntmps13
  go_upto_region 1 with fail
  rw [HWV.out]
  go_wp2_with (refine wpList_load_row rfl 33 _ rfl w.heap.size rfl 33 vh (0, 0) _ R7.out Tryd.underlying33 rfl Ivh.out ?_)
  refine HROOT.out.mono ?_
  rintro ev w1 ⟨rfl, b1⟩
  have R9b : Hid (w1.heap[w.heap.size + 1]? = some (.cells vs 33 (0, 0))) := Lib.hid ((b1.block _ (Array.getElem?_eq_some_iff.1 R9.out).1).trans R9.out)
  go_upto_region 2 with (refine wpList_store_row_any rfl 33 _ _ rfl w1.heap.size vr rfl rfl 33 _ (heap_at _ _ _ rfl) Ivr.out (by rw [Zvr.out]; rfl) Ovr.out ?_; intro w2 hbN hgN hsN; have b2 : Below w1.heap.size w1 w2 := ((Below.refl _ w1).alloc (Nat.le_refl _) _).trans (hbN.to_below (by simp) (fun k hk q => by omega)); have R11 := Lib.hid hgN; clear hbN hgN hsN)
  have R9c : Hid (w2.heap[w.heap.size + 1]? = some (.cells vs 33 (0, 0))) := Lib.hid ((b2.block _ (Array.getElem?_eq_some_iff.1 R9b.out).1).trans R9b.out)
  have HF : Hid (Below w.heap.size w w2) := Lib.hid (HB.out.trans ((b1.trans (b2.mono b1.size)).mono HB.out.size))
  have he10 := (HE.out.step HF.out).laid.e10
  have hg10 : 0 < w2.heap.size := block_of_cell he10
  clear b1 b2
  go_wp2_with (first | (refine wpList_load_row rfl 33 _ rfl w1.heap.size rfl 33 vr (0, 0) _ R11.out Tryd.underlying33 rfl Ivr.out ?_) | (refine wpList_load_row rfl 33 _ rfl (w.heap.size + 1) rfl 33 vs (0, 0) _ R9c.out Tryd.underlying33 rfl Ivs.out ?_))
  go_ret
  exact ⟨rfl, HF.out⟩
def l2 : List ByteArray := [⟨#[97]⟩, ⟨#[98]⟩]
theorem blw2k : blwI (2 - 0) = 1 := by decide +kernel
theorem l2_root : treeB l2 0 2 = nodeH (leafH ⟨#[97]⟩) (leafH ⟨#[98]⟩) := by
  unfold treeB
  rw [if_neg (by omega), treeT_node nodeH _ 0 2 (by omega) (by rw [pow2_64]; omega), blw2k, treeT_leaf nodeH _ 0 (0 + 1) (by omega), treeT_leaf nodeH _ (0 + 1) 2 (by omega)]
  rfl
theorem l2_path : treesB l2 (pathL 64 0 0 2) = [leafH ⟨#[98]⟩] := by
  have e : pathL 64 0 0 2 = [(1, 2)] := by
    rw [pathL, if_neg (by omega), blw2k, if_pos (by omega), pathL, if_pos (by omega)]; rfl
  rw [e]
  unfold treesB treeB
  rw [List.map_cons, List.map_nil, if_neg (by simp), treeT_leaf nodeH _ _ _ (by simp)]
  rfl
theorem l2_other : nodeH (leafH ⟨#[98]⟩) (leafH ⟨#[97]⟩) ≠ nodeH (leafH ⟨#[97]⟩) (leafH ⟨#[98]⟩) := by decide +kernel
set_option maxRecDepth 100000 in
set_option maxHeartbeats 8000000 in
theorem known_any (a : Nat → Addr) (B : Nat) (w : World) (hE : Env B a w) : Calls Tryd.prog 6 #[] w fun ev w' => ev = .returned (.bool true) ∧ Below w.heap.size w w' := by
  have HE := Lib.hid hE
  clear hE
  have la := leafH_length ⟨#[97]⟩
  have lb := leafH_length ⟨#[98]⟩
  have hfa : ∀ w, Env B a w → _ := fun w h => hleaf_any ⟨#[97]⟩ w (by decide) h.tab
  have hfb : ∀ w, Env B a w → _ := fun w h => hleaf_any ⟨#[98]⟩ w (by decide) h.tab
  have hroot := l2_root
  have hpath := l2_path
  have hoth := l2_other
  have hsay0 := logs_says l2 2 0 rfl (by omega) (by omega)
  have hg0 : leafG l2 ((0 : Nat) : Int) = leafH ⟨#[97]⟩ := rfl
  rw [hg0, show ((0 : Nat) : Int) = 0 from rfl, show ((2 : Nat) : Int) = 2 from rfl, hpath] at hsay0
  obtain ⟨ha, hha⟩ : ∃ h, leafH ⟨#[97]⟩ = h := ⟨_, rfl⟩
  obtain ⟨hb, hhb⟩ : ∃ h, leafH ⟨#[98]⟩ = h := ⟨_, rfl⟩
  rw [hha] at la hfa hroot hsay0 hoth
  rw [hhb] at lb hfb hroot hpath hsay0 hoth
  have hsay1 : Says nodeH 1 1 ha [hb] (nodeH hb ha) := ⟨1, by omega, by rw [bot_odd nodeH (by omega) (by omega), bot_one nodeH (by omega)]⟩
  have hnr : ∀ w, Env B a w → _ := fun w h => hnode_any ha hb w la lb h.tab
  have lr := nodeH_length ha hb
  have lo := nodeH_length hb ha
  rw [hroot] at hsay0
  obtain ⟨hr, hhr⟩ : ∃ h, nodeH ha hb = h := ⟨_, rfl⟩
  rw [hhr] at lr hnr hroot hsay0 hoth
  obtain ⟨va, ea, Ha, Zva, Iva, Ova⟩ := row_of ha la
  obtain ⟨vb, eb, Hb, Zvb, Ivb, Ovb⟩ := row_of hb lb
  obtain ⟨vr, er, Hr, Zvr, Ivr, Ovr⟩ := row_of hr lr
  have hin0 : ∀ (w : World) A c, Env B a w → HIn w A 1 c [hb] → Calls Tryd.prog 13 #[.int .u64 0, .int .u64 2, .agg va, .slice A 1 c, .agg vr] w fun ev w' => ev = .returned .nilIface ∧ Below w.heap.size w w' := fun w A c h1 h2 => by
    have := vincl_ok a B 0 2 ha [hb] hr A 1 c w h1 la lr h2 (by omega) (by omega) hsay0 (by omega)
    rw [ea, er] at this; exact this
  have hin1 : ∀ (w : World) A c, Env B a w → HIn w A 1 c [hb] → Calls Tryd.prog 13 #[.int .u64 1, .int .u64 2, .agg va, .slice A 1 c, .agg vr] w fun ev w' => ev = .returned (errV a 10) ∧ Below w.heap.size w w' := fun w A c h1 h2 => by
    have := vincl_bad a B 1 2 ha [hb] (nodeH hb ha) hr A 1 c w h1 la lo lr hoth h2 (by omega) (by omega) hsay1 (by omega)
    rw [ea, er] at this; exact this
  rw [ea] at hfa
  rw [eb] at hfb
  rw [ea, eb, er] at hnr
  have HFa := Lib.hid hfa
  have HFb := Lib.hid hfb
  have HFr := Lib.hid hnr
  have hqrr : ∀ w, (Op.equalIn 10000 33 (.agg vr) (.agg vr)).run Tryd.prog w = .ok true w := fun w => by rw [eq_hash hr hr lr lr vr vr er er w]; simp
  have HROOT : Hid (∀ base b v w, Env B a w → LogAt base b v l2 w → Calls Tryd.prog 8 #[.pointer (some ⟨b, 0, none⟩), .int .u64 2] w fun ev w' => ev = .returned (.tuple #[.agg vr, .nilIface]) ∧ Below w.heap.size w w') := Lib.hid (fun base b v w h1 h2 => by
    have := lroot_ok a B base b v l2 2 w h1 h2 (by omega) (by decide)
    rw [hroot, er] at this; exact this)
  have HPATH : Hid (∀ base b v w, Env B a w → LogAt base b v l2 w → Calls Tryd.prog 9 #[.pointer (some ⟨b, 0, none⟩), .int .u64 0, .int .u64 2] w (HashesPost w [hb])) := Lib.hid (fun base b v w h1 h2 => by
    have := lpath_ok a B base b v l2 0 2 w h1 h2 (by omega) (by omega) (by decide)
    rw [hpath] at this; exact this)
  have HINS := Lib.hid (And.intro hin0 hin1)
  clear hroot hpath hha hhb hhr hfa hfb hnr ea eb er la lb lr lo hsay0 hsay1 hoth hin0 hin1 hg0
  go_enter Tryd.func6, Tryd.ntmps6
  go_wp2_with fail
  refine (new_log w.heap.size w (Nat.le_refl _)).mono ?_
  rintro ev w1 ⟨rfl, hL1, b1⟩
  have HL1 := Lib.hid hL1
  obtain ⟨b, hb0⟩ : ∃ b, w.heap.size = b := ⟨_, rfl⟩
  have HBB := Lib.hid hb0
  have HB1 := Lib.hid b1
  clear hL1 b1
  rw [hb0] at HL1 HB1 ⊢
  clear hb0
  go_wp2_with fail
  refine (append_ok b b _ [] ⟨#[97]⟩ w1 HL1.out (by decide) (by decide) (by have := HBB.out; have := HB1.out.size; omega)).mono ?_
  rintro ev w2 ⟨rfl, v2, hL2, hC2⟩
  have HL2 := Lib.hid hL2
  have HB2 : Hid (Below b w w2) := Lib.hid (HB1.out.trans (hC2.below_of HL1.out.2.1 (by have := HBB.out; have := HB1.out.size; omega) HL1.out.own_ge))
  clear hL2 hC2
  go_wp2_with fail
  refine (append_ok b b v2 _ ⟨#[98]⟩ w2 HL2.out (by decide) (by decide) (by have := HBB.out; have := HB2.out.size; omega)).mono ?_
  rintro ev w2b ⟨rfl, v3, hL3, hC3⟩
  have HL3 : Hid (LogAt b b v3 l2 w2b) := Lib.hid hL3
  have HB3 : Hid (Below b w w2b) := Lib.hid (HB2.out.trans (hC3.below_of HL2.out.2.1 (by have := HBB.out; have := HB2.out.size; omega) HL2.out.own_ge))
  clear hL3 hC3
  rw [← HBB.out] at HB3
  go_wp2_with fail
  refine (HROOT.out _ b v3 w2b (HE.out.step HB3.out) HL3.out).mono ?_
  rintro ev w3 ⟨rfl, b3⟩
  go_upto_region 5 with (refine wpList_store_row_any rfl 33 _ _ rfl w3.heap.size vr rfl rfl 33 _ (heap_at _ _ _ rfl) Ivr.out (by rw [Zvr.out]; rfl) Ovr.out ?_; intro w4 hbN hgN hsN; have b4 : Below w3.heap.size w3 w4 := ((Below.refl _ w3).alloc (Nat.le_refl _) _).trans (hbN.to_below (by simp) (fun k hk q => by omega)); have R4 := Lib.hid hgN; clear hbN hgN hsN)
  have HB4 : Hid (Below w.heap.size w w4) := Lib.hid (HB3.out.trans ((b3.trans (b4.mono b3.size)).mono HB3.out.size))
  have HL4 : Hid (LogAt b b v3 l2 w4) := Lib.hid ((HL3.out.below b3).below b4)
  clear b3 b4
  go_wp2_with fail
  refine (HPATH.out _ b v3 w4 (HE.out.step HB4.out) HL4.out).mono ?_
  rintro ev w5 ⟨hp32, v5, rfl, ho5, b5⟩
  obtain ⟨A5, c5, rfl, hc5⟩ := own_shape ho5
  have H5 : Hid (HIn w5 A5 1 c5 [hb]) := Lib.hid (own_hin ho5 hp32 rfl)
  have HB5 : Hid (Below w.heap.size w w5) := Lib.hid (HB4.out.trans (b5.mono HB4.out.size))
  have HEK : Hid (Env B a w5) := Lib.hid (HE.out.step HB5.out)
  have KR : Hid (∀ w', Gr w5 w' → w'.heap[w3.heap.size]? = some (.cells vr 33 (0, 0))) := Lib.hid (fun w' h => by
    have h5 := (b5.block _ (Array.getElem?_eq_some_iff.1 R4.out).1).trans R4.out
    exact (h.block _ (Array.getElem?_eq_some_iff.1 h5).1).trans h5)
  have HI0 : Hid (∀ w', Env B a w' → Gr w5 w' → Calls Tryd.prog 13 #[.int .u64 0, .int .u64 2, .agg va, .slice A5 1 c5, .agg vr] w' fun ev w2 => ev = .returned .nilIface ∧ Below w'.heap.size w' w2) := Lib.hid (fun w' h1 h2 => HINS.out.1 w' A5 c5 h1 (H5.out.below h2))
  have HI1 : Hid (∀ w', Env B a w' → Gr w5 w' → Calls Tryd.prog 13 #[.int .u64 1, .int .u64 2, .agg va, .slice A5 1 c5, .agg vr] w' fun ev w2 => ev = .returned (errV a 10) ∧ Below w'.heap.size w' w2) := Lib.hid (fun w' h1 h2 => HINS.out.2 w' A5 c5 h1 (H5.out.below h2))
  unfold errV at HI1
  clear hp32 ho5 b5
  go_upto_region 6 with fail
  refine wp_region_held_drew (S := Gr w5) (by kernel_rfl) ((Gr.refl _).drew) (fun hHeld => ?_)
  refine wpAnyH_take (i := 0) (v := ?tv1) rfl (by kernel_rfl) (by kernel_rfl) (by kernel_rfl) (fun _ _ _ h => h) (Or.inl ⟨by rfl, ?ty1⟩) (by assumption) ?tr1
  case ty1 => (intro w hSw; (try dsimp only at hSw); go_simp; (try with_reducible rfl))
  try simp only [Act.put, List.getElem_toArray, List.getElem_cons_zero, List.setIfInBounds_toArray, List.set_cons_zero, List.set_cons_succ]
  refine wpAnyH_take (i := 1) (v := ?tv2) rfl (by kernel_rfl) (by kernel_rfl) (by kernel_rfl) (fun _ _ _ h => h) (Or.inl ⟨by rfl, ?ty2⟩) (by assumption) ?tr2
  case ty2 => (intro w hSw; (try dsimp only at hSw); go_simp; (try with_reducible rfl))
  try simp only [Act.put, List.getElem_toArray, List.getElem_cons_zero, List.getElem_cons_succ, List.setIfInBounds_toArray, List.set_cons_zero, List.set_cons_succ]
  refine wpAnyH_take (i := 2) (v := ?tv3) rfl (by kernel_rfl) (by kernel_rfl) (by kernel_rfl) (fun _ _ _ h => h) (Or.inl ⟨by rfl, ?ty3⟩) (by assumption) ?tr3
  case ty3 => (intro w hSw; (try dsimp only at hSw); go_simp; (try with_reducible rfl))
  try simp only [Act.put, List.getElem_toArray, List.getElem_cons_zero, List.getElem_cons_succ, List.setIfInBounds_toArray, List.set_cons_zero, List.set_cons_succ]
  refine wpAnyH_take (i := 3) (v := ?tv4) rfl (by kernel_rfl) (by kernel_rfl) (by kernel_rfl) (fun _ _ _ h => h) (Or.inl ⟨by rfl, ?ty4⟩) (by assumption) ?tr4
  case ty4 => (intro w hSw; (try dsimp only at hSw); go_simp; (try with_reducible rfl))
  try simp only [Act.put, List.getElem_toArray, List.getElem_cons_zero, List.getElem_cons_succ, List.setIfInBounds_toArray, List.set_cons_zero, List.set_cons_succ]
  refine wpAnyH_take (i := 4) (v := ?tv5) rfl (by kernel_rfl) (by kernel_rfl) (by kernel_rfl) (fun _ _ _ h => h) (Or.inl ⟨by rfl, ?ty5⟩) (by assumption) ?tr5
  case ty5 => (intro w hSw; (try dsimp only at hSw); go_simp; (try with_reducible rfl))
  try simp only [Act.put, List.getElem_toArray, List.getElem_cons_zero, List.getElem_cons_succ, List.setIfInBounds_toArray, List.set_cons_zero, List.set_cons_succ]
  refine wpAnyH_take (i := 5) (v := ?tv6) rfl (by kernel_rfl) (by kernel_rfl) (by kernel_rfl) (fun _ _ _ h => h) (Or.inl ⟨by rfl, ?ty6⟩) (by assumption) ?tr6
  case ty6 => (intro w hSw; (try dsimp only at hSw); go_simp; (try with_reducible rfl))
  try simp only [Act.put, List.getElem_toArray, List.getElem_cons_zero, List.getElem_cons_succ, List.setIfInBounds_toArray, List.set_cons_zero, List.set_cons_succ]
  refine wpAnyH_take (i := 6) (v := ?tv7) rfl (by kernel_rfl) (by kernel_rfl) (by kernel_rfl) (fun _ _ _ h => h) (Or.inl ⟨by rfl, ?ty7⟩) (by assumption) ?tr7
  case ty7 => (intro w hSw; (try dsimp only at hSw); go_simp; (try with_reducible rfl))
  try simp only [Act.put, List.getElem_toArray, List.getElem_cons_zero, List.getElem_cons_succ, List.setIfInBounds_toArray, List.set_cons_zero, List.set_cons_succ]
  refine wpAnyH_take (i := 7) (v := ?tv8) rfl (by kernel_rfl) (by kernel_rfl) (by kernel_rfl) (fun _ _ _ h => h) (Or.inl ⟨by rfl, ?ty8⟩) (by assumption) ?tr8
  case ty8 => (intro w hSw; (try dsimp only at hSw); go_simp; (try with_reducible rfl))
  try simp only [Act.put, List.getElem_toArray, List.getElem_cons_zero, List.getElem_cons_succ, List.setIfInBounds_toArray, List.set_cons_zero, List.set_cons_succ]
  refine wpAnyH_take (i := 8) (v := ?tv9) rfl (by kernel_rfl) (by kernel_rfl) (by kernel_rfl) (fun _ _ _ h => h) (Or.inl ⟨by rfl, ?ty9⟩) (by assumption) ?tr9
  case ty9 => (intro w hSw; (try dsimp only at hSw); go_simp; (try with_reducible rfl))
  try simp only [Act.put, List.getElem_toArray, List.getElem_cons_zero, List.getElem_cons_succ, List.setIfInBounds_toArray, List.set_cons_zero, List.set_cons_succ]
  refine wpAnyH_take (i := 9) (v := ?tv10) rfl (by kernel_rfl) (by kernel_rfl) (by kernel_rfl) (fun _ _ _ h => h) (Or.inl ⟨by rfl, ?ty10⟩) (by assumption) ?tr10
  case ty10 => (intro w hSw; (try dsimp only at hSw); go_simp; (try with_reducible rfl))
  try simp only [Act.put, List.getElem_toArray, List.getElem_cons_zero, List.getElem_cons_succ, List.setIfInBounds_toArray, List.set_cons_zero, List.set_cons_succ]
  refine wpAnyH_take (i := 10) (v := ?tv11) rfl (by kernel_rfl) (by kernel_rfl) (by kernel_rfl) (fun _ _ _ h => h) (Or.inl ⟨by rfl, ?ty11⟩) (by assumption) ?tr11
  case ty11 => (intro w hSw; (try dsimp only at hSw); go_simp; (try with_reducible rfl))
  try simp only [Act.put, List.getElem_toArray, List.getElem_cons_zero, List.getElem_cons_succ, List.setIfInBounds_toArray, List.set_cons_zero, List.set_cons_succ]
  refine wpAnyH_take (i := 11) (v := ?tv12) rfl (by kernel_rfl) (by kernel_rfl) (by kernel_rfl) (fun _ _ _ h => h) (Or.inl ⟨by rfl, ?ty12⟩) (by assumption) ?tr12
  case ty12 => (intro w hSw; (try dsimp only at hSw); go_simp; (try with_reducible rfl))
  try simp only [Act.put, List.getElem_toArray, List.getElem_cons_zero, List.getElem_cons_succ, List.setIfInBounds_toArray, List.set_cons_zero, List.set_cons_succ]
  refine wpAnyH_take (i := 12) (v := ?tv13) rfl (by kernel_rfl) (by kernel_rfl) (by kernel_rfl) (fun _ _ _ h => h) (Or.inl ⟨by rfl, ?ty13⟩) (by assumption) ?tr13
  case ty13 => (intro w hSw; (try dsimp only at hSw); go_simp; (try with_reducible rfl))
  try simp only [Act.put, List.getElem_toArray, List.getElem_cons_zero, List.getElem_cons_succ, List.setIfInBounds_toArray, List.set_cons_zero, List.set_cons_succ]
  refine wpAnyH_take (i := 13) (v := ?tv14) rfl (by kernel_rfl) (by kernel_rfl) (by kernel_rfl) (fun _ _ _ h => h) (Or.inl ⟨by rfl, ?ty14⟩) (by assumption) ?tr14
  case ty14 => (intro w hSw; (try dsimp only at hSw); go_simp; (try with_reducible rfl))
  try simp only [Act.put, List.getElem_toArray, List.getElem_cons_zero, List.getElem_cons_succ, List.setIfInBounds_toArray, List.set_cons_zero, List.set_cons_succ]
  refine wpAnyH_take (i := 14) (v := ?tv15) rfl (by kernel_rfl) (by kernel_rfl) (by kernel_rfl) (fun _ _ _ h => h) (Or.inl ⟨by rfl, ?ty15⟩) (by assumption) ?tr15
  case ty15 => (intro w hSw; (try dsimp only at hSw); go_simp; (try with_reducible rfl))
  try simp only [Act.put, List.getElem_toArray, List.getElem_cons_zero, List.getElem_cons_succ, List.setIfInBounds_toArray, List.set_cons_zero, List.set_cons_succ]
  refine wpAnyH_take (i := 15) (v := ?tv16) rfl (by kernel_rfl) (by kernel_rfl) (by kernel_rfl) (fun _ _ _ h => h) (Or.inl ⟨by rfl, ?ty16⟩) (by assumption) ?tr16
  case ty16 => (intro w hSw; (try dsimp only at hSw); go_simp; (try with_reducible rfl))
  try simp only [Act.put, List.getElem_toArray, List.getElem_cons_zero, List.getElem_cons_succ, List.setIfInBounds_toArray, List.set_cons_zero, List.set_cons_succ]
  refine wpAnyH_take (i := 16) (v := ?tv17) rfl (by kernel_rfl) (by kernel_rfl) (by kernel_rfl) (fun _ _ _ h => h) (Or.inl ⟨by rfl, ?ty17⟩) (by assumption) ?tr17
  case ty17 => (intro w hSw; (try dsimp only at hSw); go_simp; (try with_reducible rfl))
  try simp only [Act.put, List.getElem_toArray, List.getElem_cons_zero, List.getElem_cons_succ, List.setIfInBounds_toArray, List.set_cons_zero, List.set_cons_succ]
  refine wpAnyH_take (i := 17) (v := ?tv18) rfl (by kernel_rfl) (by kernel_rfl) (by kernel_rfl) (fun _ _ _ h => h) (Or.inl ⟨by rfl, ?ty18⟩) (by assumption) ?tr18
  case ty18 => (intro w hSw; (try dsimp only at hSw); go_simp; (try with_reducible rfl))
  try simp only [Act.put, List.getElem_toArray, List.getElem_cons_zero, List.getElem_cons_succ, List.setIfInBounds_toArray, List.set_cons_zero, List.set_cons_succ]
  refine wpAnyH_take (i := 18) (v := ?tv19) rfl (by kernel_rfl) (by kernel_rfl) (by kernel_rfl) (fun _ _ _ h => h) (Or.inl ⟨by rfl, ?ty19⟩) (by assumption) ?tr19
  case ty19 => (intro w hSw; (try dsimp only at hSw); go_simp; (try with_reducible rfl))
  try simp only [Act.put, List.getElem_toArray, List.getElem_cons_zero, List.getElem_cons_succ, List.setIfInBounds_toArray, List.set_cons_zero, List.set_cons_succ]
  refine wpAnyH_take (i := 19) (v := ?tv20) rfl (by kernel_rfl) (by kernel_rfl) (by kernel_rfl) (fun _ _ _ h => h) (Or.inl ⟨by rfl, ?ty20⟩) (by assumption) ?tr20
  case ty20 => (intro w hSw; (try dsimp only at hSw); go_simp; (try with_reducible rfl))
  try simp only [Act.put, List.getElem_toArray, List.getElem_cons_zero, List.getElem_cons_succ, List.setIfInBounds_toArray, List.set_cons_zero, List.set_cons_succ]
  refine wpAnyH_take (i := 20) (v := _) rfl (by kernel_rfl) (by kernel_rfl) (by kernel_rfl) (fun _ _ _ h => h) (yieldsIf_load_row (by rfl) 33 _ (by rfl) w3.heap.size (by rfl) 33 vr (0, 0) _ (fun w h => KR.out w h) Tryd.underlying33 rfl Ivr.out) (by assumption) ?_
  try simp only [Act.put, List.getElem_toArray, List.getElem_cons_zero, List.getElem_cons_succ, List.setIfInBounds_toArray, List.set_cons_zero, List.set_cons_succ]
  refine wpAnyH_ready (rs := [21]) (by kernel_rfl) (by simp) ?_
  refine AllReadyH.cons (i := 21) rfl (fun K2 hK2 => ?_) AllReadyH.nil
  go_simp
  go_at_call 21
  refine (HFa.out w5.drew (HEK.out.step (show Gr w5 w5.drew from (by repeat (first | exact Gr.refl _ | (refine Gr.step ?_ (by assumption)) | (refine Gr.alloc ?_ _) | (refine Gr.drew ?_)))))).mono ?_
  rintro ev w101 ⟨rfl, b101⟩
  try go_wp2_with fail
  refine hK2.out _ _ (show Gr w5 _ from (by repeat (first | exact Gr.refl _ | (refine Gr.step ?_ (by assumption)) | (refine Gr.alloc ?_ _) | (refine Gr.drew ?_)))) (fun hHeld2 => ?_)
  clear hK2 K2
  try simp only [Act.put, List.getElem_toArray, List.getElem_cons_zero, List.getElem_cons_succ, List.setIfInBounds_toArray, List.set_cons_zero, List.set_cons_succ]
  refine wpAnyH_ready (rs := [22]) (by kernel_rfl) (by simp) ?_
  refine AllReadyH.cons (i := 22) rfl (fun K2 hK2 => ?_) AllReadyH.nil
  go_simp
  go_at_call 21
  refine (HFb.out w101 (HEK.out.step (show Gr w5 w101 from (by repeat (first | exact Gr.refl _ | (refine Gr.step ?_ (by assumption)) | (refine Gr.alloc ?_ _) | (refine Gr.drew ?_)))))).mono ?_
  rintro ev w102 ⟨rfl, b102⟩
  try go_wp2_with fail
  refine hK2.out _ _ (show Gr w5 _ from (by repeat (first | exact Gr.refl _ | (refine Gr.step ?_ (by assumption)) | (refine Gr.alloc ?_ _) | (refine Gr.drew ?_)))) (fun hHeld2 => ?_)
  clear hK2 K2
  try simp only [Act.put, List.getElem_toArray, List.getElem_cons_zero, List.getElem_cons_succ, List.setIfInBounds_toArray, List.set_cons_zero, List.set_cons_succ]
  refine wpAnyH_ready (rs := [23]) (by kernel_rfl) (by simp) ?_
  refine AllReadyH.cons (i := 23) rfl (fun K2 hK2 => ?_) AllReadyH.nil
  go_simp
  go_at_call 20
  refine (HFr.out w102 (HEK.out.step (show Gr w5 w102 from (by repeat (first | exact Gr.refl _ | (refine Gr.step ?_ (by assumption)) | (refine Gr.alloc ?_ _) | (refine Gr.drew ?_)))))).mono ?_
  rintro ev w103 ⟨rfl, b103⟩
  try go_wp2_with fail
  refine hK2.out _ _ (show Gr w5 _ from (by repeat (first | exact Gr.refl _ | (refine Gr.step ?_ (by assumption)) | (refine Gr.alloc ?_ _) | (refine Gr.drew ?_)))) (fun hHeld2 => ?_)
  clear hK2 K2
  try simp only [Act.put, List.getElem_toArray, List.getElem_cons_zero, List.getElem_cons_succ, List.setIfInBounds_toArray, List.set_cons_zero, List.set_cons_succ]
  refine wpAnyH_take (i := 24) (v := ?tv22) rfl (by kernel_rfl) (by kernel_rfl) (by kernel_rfl) (fun _ _ _ h => h) (Or.inl ⟨by rfl, ?ty22⟩) (by assumption) ?tr22
  case ty22 => (intro w hSw; (try dsimp only at hSw); go_simp; (try with_reducible rfl))
  try simp only [Act.put, List.getElem_toArray, List.getElem_cons_zero, List.getElem_cons_succ, List.setIfInBounds_toArray, List.set_cons_zero, List.set_cons_succ]
  refine wpAnyH_take (i := 25) (v := ?tv23) rfl (by kernel_rfl) (by kernel_rfl) (by kernel_rfl) (fun _ _ _ h => h) (Or.inl ⟨by rfl, ?ty23⟩) (by assumption) ?tr23
  case ty23 => (intro w hSw; (try dsimp only at hSw); go_simp; (try with_reducible rfl))
  try simp only [Act.put, List.getElem_toArray, List.getElem_cons_zero, List.getElem_cons_succ, List.setIfInBounds_toArray, List.set_cons_zero, List.set_cons_succ]
  refine wpAnyH_done (by kernel_rfl) ?_ _
  go_wp2_with fail
  obtain ⟨x1, hx1⟩ : ∃ z, w103 = z := ⟨_, rfl⟩
  have g1 : Below w5.heap.size w5 x1 := by rw [← hx1]; exact (show Gr w5 w103 from (by repeat (first | exact Gr.refl _ | (refine Gr.step ?_ (by assumption)) | (refine Gr.alloc ?_ _) | (refine Gr.drew ?_))))
  rw [hx1]
  refine wp_region_held_drew (S := Gr w5) (by kernel_rfl) ((show Gr w5 x1 from g1).drew) (fun hHeld => ?_)
  refine wpAnyH_take (i := 1) (v := ?tv24) rfl (by kernel_rfl) (by kernel_rfl) (by kernel_rfl) (fun _ _ _ h => h) (Or.inl ⟨by rfl, ?ty24⟩) (by assumption) ?tr24
  case ty24 => (intro w hSw; (try dsimp only at hSw); go_simp; (try with_reducible rfl))
  try simp only [Act.put, List.getElem_toArray, List.getElem_cons_zero, List.getElem_cons_succ, List.setIfInBounds_toArray, List.set_cons_zero, List.set_cons_succ]
  refine wpAnyH_take (i := 2) (v := _) rfl (by kernel_rfl) (by kernel_rfl) (by kernel_rfl) (fun _ _ _ h => h) (yieldsIf_load_row (by rfl) 33 _ (by rfl) w3.heap.size (by rfl) 33 vr (0, 0) _ (fun w h => KR.out w h) Tryd.underlying33 rfl Ivr.out) (by assumption) ?_
  try simp only [Act.put, List.getElem_toArray, List.getElem_cons_zero, List.getElem_cons_succ, List.setIfInBounds_toArray, List.set_cons_zero, List.set_cons_succ]
  refine wpAnyH_ready (rs := [0]) (by kernel_rfl) (by simp) ?_
  refine AllReadyH.cons (i := 0) rfl (fun K2 hK2 => ?_) AllReadyH.nil
  go_simp
  go_at_call 21
  refine (HFa.out x1.drew (HEK.out.step (show Gr w5 x1.drew from (by repeat (first | exact Gr.refl _ | (refine Gr.step ?_ (by assumption)) | (refine Gr.alloc ?_ _) | (refine Gr.drew ?_)))))).mono ?_
  rintro ev w104 ⟨rfl, b104⟩
  try go_wp2_with fail
  refine hK2.out _ _ (show Gr w5 _ from (by repeat (first | exact Gr.refl _ | (refine Gr.step ?_ (by assumption)) | (refine Gr.alloc ?_ _) | (refine Gr.drew ?_)))) (fun hHeld2 => ?_)
  clear hK2 K2
  try simp only [Act.put, List.getElem_toArray, List.getElem_cons_zero, List.setIfInBounds_toArray, List.set_cons_zero, List.set_cons_succ]
  refine wpAnyH_ready (rs := [3]) (by kernel_rfl) (by simp) ?_
  refine AllReadyH.cons (i := 3) rfl (fun K2 hK2 => ?_) AllReadyH.nil
  go_simp
  go_at_call 13
  refine (HI0.out w104 (HEK.out.step (show Gr w5 w104 from (by repeat (first | exact Gr.refl _ | (refine Gr.step ?_ (by assumption)) | (refine Gr.alloc ?_ _) | (refine Gr.drew ?_))))) (show Gr w5 w104 from (by repeat (first | exact Gr.refl _ | (refine Gr.step ?_ (by assumption)) | (refine Gr.alloc ?_ _) | (refine Gr.drew ?_))))).mono ?_
  rintro ev w105 ⟨rfl, b105⟩
  try go_wp2_with fail
  refine hK2.out _ _ (show Gr w5 _ from (by repeat (first | exact Gr.refl _ | (refine Gr.step ?_ (by assumption)) | (refine Gr.alloc ?_ _) | (refine Gr.drew ?_)))) (fun hHeld2 => ?_)
  clear hK2 K2
  try simp only [Act.put, List.getElem_toArray, List.getElem_cons_zero, List.getElem_cons_succ, List.setIfInBounds_toArray, List.set_cons_zero, List.set_cons_succ]
  refine wpAnyH_take (i := 4) (v := ?tv26) rfl (by kernel_rfl) (by kernel_rfl) (by kernel_rfl) (fun _ _ _ h => h) (Or.inl ⟨by rfl, ?ty26⟩) (by assumption) ?tr26
  case ty26 => (intro w hSw; (try dsimp only at hSw); go_simp; (try with_reducible rfl))
  try simp only [Act.put, List.getElem_toArray, List.getElem_cons_zero, List.getElem_cons_succ, List.setIfInBounds_toArray, List.set_cons_zero, List.set_cons_succ]
  refine wpAnyH_take (i := 5) (v := ?tv27) rfl (by kernel_rfl) (by kernel_rfl) (by kernel_rfl) (fun _ _ _ h => h) (Or.inl ⟨by rfl, ?ty27⟩) (by assumption) ?tr27
  case ty27 => (intro w hSw; (try dsimp only at hSw); go_simp; (try with_reducible rfl))
  try simp only [Act.put, List.getElem_toArray, List.getElem_cons_zero, List.getElem_cons_succ, List.setIfInBounds_toArray, List.set_cons_zero, List.set_cons_succ]
  refine wpAnyH_take (i := 7) (v := ?tv28) rfl (by kernel_rfl) (by kernel_rfl) (by kernel_rfl) (fun _ _ _ h => h) (Or.inl ⟨by rfl, ?ty28⟩) (by assumption) ?tr28
  case ty28 => (intro w hSw; (try dsimp only at hSw); go_simp; (try with_reducible rfl))
  try simp only [Act.put, List.getElem_toArray, List.getElem_cons_zero, List.getElem_cons_succ, List.setIfInBounds_toArray, List.set_cons_zero, List.set_cons_succ]
  refine wpAnyH_take (i := 8) (v := _) rfl (by kernel_rfl) (by kernel_rfl) (by kernel_rfl) (fun _ _ _ h => h) (yieldsIf_load_row (by rfl) 33 _ (by rfl) w3.heap.size (by rfl) 33 vr (0, 0) _ (fun w h => KR.out w h) Tryd.underlying33 rfl Ivr.out) (by assumption) ?_
  try simp only [Act.put, List.getElem_toArray, List.getElem_cons_zero, List.getElem_cons_succ, List.setIfInBounds_toArray, List.set_cons_zero, List.set_cons_succ]
  refine wpAnyH_ready (rs := [6]) (by kernel_rfl) (by simp) ?_
  refine AllReadyH.cons (i := 6) rfl (fun K2 hK2 => ?_) AllReadyH.nil
  go_simp
  go_at_call 21
  refine (HFa.out w105 (HEK.out.step (show Gr w5 w105 from (by repeat (first | exact Gr.refl _ | (refine Gr.step ?_ (by assumption)) | (refine Gr.alloc ?_ _) | (refine Gr.drew ?_)))))).mono ?_
  rintro ev w106 ⟨rfl, b106⟩
  try go_wp2_with fail
  refine hK2.out _ _ (show Gr w5 _ from (by repeat (first | exact Gr.refl _ | (refine Gr.step ?_ (by assumption)) | (refine Gr.alloc ?_ _) | (refine Gr.drew ?_)))) (fun hHeld2 => ?_)
  clear hK2 K2
  try simp only [Act.put, List.getElem_toArray, List.getElem_cons_zero, List.getElem_cons_succ, List.setIfInBounds_toArray, List.set_cons_zero, List.set_cons_succ]
  refine wpAnyH_ready (rs := [9]) (by kernel_rfl) (by simp) ?_
  refine AllReadyH.cons (i := 9) rfl (fun K2 hK2 => ?_) AllReadyH.nil
  go_simp
  go_at_call 13
  refine (HI1.out w106 (HEK.out.step (show Gr w5 w106 from (by repeat (first | exact Gr.refl _ | (refine Gr.step ?_ (by assumption)) | (refine Gr.alloc ?_ _) | (refine Gr.drew ?_))))) (show Gr w5 w106 from (by repeat (first | exact Gr.refl _ | (refine Gr.step ?_ (by assumption)) | (refine Gr.alloc ?_ _) | (refine Gr.drew ?_))))).mono ?_
  rintro ev w107 ⟨rfl, b107⟩
  try go_wp2_with fail
  refine hK2.out _ _ (show Gr w5 _ from (by repeat (first | exact Gr.refl _ | (refine Gr.step ?_ (by assumption)) | (refine Gr.alloc ?_ _) | (refine Gr.drew ?_)))) (fun hHeld2 => ?_)
  clear hK2 K2
  try simp only [Act.put, List.getElem_toArray, List.getElem_cons_zero, List.getElem_cons_succ, List.setIfInBounds_toArray, List.set_cons_zero, List.set_cons_succ]
  refine wpAnyH_take (i := 10) (v := ?tv30) rfl (by kernel_rfl) (by kernel_rfl) (by kernel_rfl) (fun _ _ _ h => h) (Or.inl ⟨by rfl, ?ty30⟩) (by assumption) ?tr30
  case ty30 => (intro w hSw; (try dsimp only at hSw); go_simp; (try with_reducible rfl))
  try simp only [Act.put, List.getElem_toArray, List.getElem_cons_zero, List.getElem_cons_succ, List.setIfInBounds_toArray, List.set_cons_zero, List.set_cons_succ]
  refine wpAnyH_take (i := 11) (v := ?tv31) rfl (by kernel_rfl) (by kernel_rfl) (by kernel_rfl) (fun _ _ _ h => h) (Or.inl ⟨by rfl, ?ty31⟩) (by assumption) ?tr31
  case ty31 => (intro w hSw; (try dsimp only at hSw); go_simp; (try with_reducible rfl))
  try simp only [Act.put, List.getElem_toArray, List.getElem_cons_zero, List.getElem_cons_succ, List.setIfInBounds_toArray, List.set_cons_zero, List.set_cons_succ]
  refine wpAnyH_take (i := 12) (v := ?tv32) rfl (by kernel_rfl) (by kernel_rfl) (by kernel_rfl) (fun _ _ _ h => h) (Or.inl ⟨by rfl, ?ty32⟩) (by assumption) ?tr32
  case ty32 => (intro w hSw; (try dsimp only at hSw); go_simp; (try with_reducible rfl))
  try simp only [Act.put, List.getElem_toArray, List.getElem_cons_zero, List.getElem_cons_succ, List.setIfInBounds_toArray, List.set_cons_zero]
  refine wpAnyH_done (by kernel_rfl) ?_ _
  go_wp2_with fail
  go_ret
  exact ⟨rfl, HB5.out.trans ((show Gr w5 w107 from (by repeat (first | exact Gr.refl _ | (refine Gr.step ?_ (by assumption)) | (refine Gr.alloc ?_ _) | (refine Gr.drew ?_)))).mono HB5.out.size)⟩
end Go.Proofs.YtjhlgkjgodjmhaaDoor
