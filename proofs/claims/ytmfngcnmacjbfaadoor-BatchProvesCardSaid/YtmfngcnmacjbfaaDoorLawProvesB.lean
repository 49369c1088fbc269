/- The law BatchProves. Condition: the package-level variables read as listed. -/
import Derived.Test.YtmfngcnmacjbfaaDoorLawCounts
import Derived.Test.YtmfngcnmacjbfaaDoorVerifyIncl
import Derived.Test.YtmfngcnmacjbfaaDoorDropOne
namespace Go.Proofs.YtmfngcnmacjbfaaDoor
open Go.ChangeShapes Go.WideShapes Go.ChangeAt Go.RowKit
set_option linter.unusedVariables false
theorem eq_zeroB2 (vz : Array Value) (h : hv zeroH = .agg vz) (w : World) : (Op.equalIn 10000 29 (.agg vz) (.agg #[.int .u8 0, .int .u8 0, .int .u8 0, .int .u8 0, .int .u8 0, .int .u8 0, .int .u8 0, .int .u8 0, .int .u8 0, .int .u8 0, .int .u8 0, .int .u8 0, .int .u8 0, .int .u8 0, .int .u8 0, .int .u8 0, .int .u8 0, .int .u8 0, .int .u8 0, .int .u8 0, .int .u8 0, .int .u8 0, .int .u8 0, .int .u8 0, .int .u8 0, .int .u8 0, .int .u8 0, .int .u8 0, .int .u8 0, .int .u8 0, .int .u8 0, .int .u8 0])).run Tryd.prog w = .ok true w := by
  rw [eq_hash zeroH zeroH zeroH_length zeroH_length vz _ h (by rw [zeroH_v]; rfl) w]; simp
theorem eq_selfC2 (p : List UInt8) (hp : p.length = 32) (vp : Array Value) (h : hv p = .agg vp) (w : World) : (Op.equalIn 10000 29 (.agg vp) (.agg vp)).run Tryd.prog w = .ok true w := by
  rw [eq_hash p p hp hp vp vp h h w]; simp

theorem erase_perm {A B : List (List UInt8)} {q : List UInt8} {r : List (List UInt8)} (h : A.Perm B) (hB : B = q :: r) {j : Nat} (hj : A[j]? = some q) : (A.eraseIdx j).Perm r := by
  subst hB
  have hl := (List.getElem?_eq_some_iff.1 hj).1
  have e : A = A.take j ++ q :: A.drop (j + 1) := by
    conv => lhs; rw [← List.take_append_drop j A]
    congr 1
    rw [List.drop_eq_getElem_cons hl]; congr 1
    rw [List.getElem?_eq_getElem hl] at hj; exact Option.some.inj hj
  rw [List.eraseIdx_eq_take_drop_succ]
  have h2 : (q :: (A.take j ++ A.drop (j + 1))).Perm (q :: r) := (List.perm_middle.symm.trans (e ▸ List.Perm.refl _)).trans h
  exact h2.cons_inv

set_option maxRecDepth 100000 in
set_option maxHeartbeats 8000000 in
theorem proves_one (a : Nat → Addr) (B : Nat) (x sz ix : Int) (A1 A2 : Option Addr) (n1 k1 n2 k2 : Nat) (L P : List (List UInt8)) (w : World) (hE : Env B a w) (h1 : HIn w A1 n1 k1 L) (h2 : HIn w A2 n2 k2 P) (m1 : n1 ≤ 9000000000000000000) (m2 : n2 ≤ 9000000000000000000) (hx0 : 0 ≤ x) (hx1 : x < 18446744073709551616) (hs0 : 0 ≤ sz) (hs1 : sz < 18446744073709551616) (hi0 : 0 ≤ ix) (hi1 : ix < 18446744073709551616)
    (hg : n1 + n2 ≤ 1048576) (hk : batchK x sz n1 n2 = 0) (ho : x ≤ ix ∧ ix - x < (n1 : Int)) (hn1 : n1 = 1) :
    Calls Tryd.prog 7 #[.int .u64 x, .int .u64 sz, .agg #[.slice A1 n1 k1, .slice A2 n2 k2, .int .u64 ix]] w fun ev w' => ev = .returned (.bool true) ∧ Below w.heap.size w w' := by
  have e1 := h1.2.1
  have e2 := h2.2.1
  subst e1 e2
  obtain ⟨rt, hrt⟩ : ∃ r, rootB x sz L P = r := ⟨_, rfl⟩
  have h3 : L.length ≠ 0 ∧ ¬ (9223372036854775808 < sz ∨ sz < x ∨ sz - x < L.length) ∧ (batchL 64 x (x + L.length) 0 sz).length = P.length := by
    unfold batchK at hk
    split at hk
    · cases hk
    · rename_i q0
      split at hk
      · cases hk
      · rename_i q3
        split at hk
        · cases hk
        · rename_i q4
          exact ⟨q0, q3, by omega⟩
  have HK3 := Lib.hid h3
  clear h3
  have HROOT : Hid (∀ w, Env B a w → HIn w A1 L.length k1 L → HIn w A2 P.length k2 P → Calls Tryd.prog 15 #[.int .u64 x, .int .u64 sz, .slice A1 L.length k1, .slice A2 P.length k2] w fun ev w' => ev = .returned (.tuple #[hv rt, .nilIface]) ∧ rt.length = 32 ∧ Below w.heap.size w w') := Lib.hid (fun w h i1 i2 => by
    have := root_ok a B x sz A1 A2 k1 k2 L P w h i1 i2 hx0 hx1 hs0 hs1 hk
    rw [hrt] at this; exact this)
  have hwn : IntKind.u64.wrap (L.length : Int) = L.length := IntWalk.u64_in _ (by omega)
  have HE := Lib.hid hE
  have H1 := Lib.hid h1
  have H2 := Lib.hid h2
  have hwb : w.heap.size < (w.alloc (.cells #[.slice A1 L.length k1, .slice A2 P.length k2, .int .u64 ix] 25)).heap.size := by simp
  have c0 : (w.alloc (.cells #[.slice A1 L.length k1, .slice A2 P.length k2, .int .u64 ix] 25)).cell? ⟨w.heap.size, 0, none⟩ = some (.slice A1 L.length k1) := cell_new _ _ 0 _ rfl
  have c1 : (w.alloc (.cells #[.slice A1 L.length k1, .slice A2 P.length k2, .int .u64 ix] 25)).cell? ⟨w.heap.size, 1, none⟩ = some (.slice A2 P.length k2) := cell_new _ _ 1 _ rfl
  have c2 : (w.alloc (.cells #[.slice A1 L.length k1, .slice A2 P.length k2, .int .u64 ix] 25)).cell? ⟨w.heap.size, 2, none⟩ = some (.int .u64 ix) := cell_new _ _ 2 _ rfl
  have gb : Gr w (w.alloc (.cells #[.slice A1 L.length k1, .slice A2 P.length k2, .int .u64 ix] 25)) := (Gr.refl _).alloc _
  obtain ⟨wb, hwb'⟩ : ∃ wb, (w.alloc (.cells #[.slice A1 L.length k1, .slice A2 P.length k2, .int .u64 ix] 25)) = wb := ⟨_, rfl⟩
  rw [hwb'] at hwb c0 c1 c2 gb
  have gb : Below w.heap.size w wb := gb
  have HWB := Lib.hid hwb'
  have hbx : (Tryd.prog.info? 25).map (·.size) = some 3 := by kernel_rfl
  have HM := Lib.hid (And.intro m1 m2)
  clear hwb' hE h1 h2 m1 m2
  have hgd : decide (1048576 < L.length + P.length) = false := by simp; omega
  have HG := Lib.hid hg
  obtain ⟨lk, hlk⟩ : ∃ k : Nat, ix - x = k := ⟨(ix - x).toNat, by omega⟩
  obtain ⟨lf, hlf⟩ : ∃ p, L[lk]? = some p := ⟨_, List.getElem?_eq_getElem (by omega)⟩
  obtain ⟨pth, hpth⟩ : ∃ p, pathB x sz L P ix = p := ⟨_, rfl⟩
  obtain ⟨pn, hpn⟩ : ∃ n, pth.length = n := ⟨_, rfl⟩
  have hpn64 : pn ≤ 64 := by rw [← hpn, ← hpth]; exact pathB_len x sz L P ix
  have HPN := Lib.hid hpn
  have HBP := Lib.hid (fun w h i1 i2 => bpath_ok a B x sz ix A1 A2 k1 k2 L P w h i1 i2 hx0 hx1 hs0 hs1 hk ho.1 ho.2)
  rw [hpth] at HBP
  have hll := H1.out.1.at hlf
  obtain ⟨vl, evl, Hvl, Zvl, Ivl, Ovl⟩ := row_of lf hll
  have hszx : x + L.length ≤ sz ∧ sz ≤ 9223372036854775808 := by have := HK3.out.2.1; omega
  have hla : leafAt x L ix = lf := by unfold leafAt; rw [List.getD_eq_getElem?_getD, hlk, Int.toNat_natCast, hlf]; rfl
  have hsay : Says nodeH ix.toNat (sz.toNat - 1) lf pth rt := by
    refine ⟨64, by omega, ?_⟩
    have := bot_pathF nodeH 64 x (x + L.length) (leafAt x L) ix 0 sz P (by omega) (by omega) ho.1 (by omega) (by rw [pow2_64]; omega) (by omega)
    rw [show sz.toNat - 1 + 1 = (sz - 0).toNat by omega, ← hla, ← hpth, ← hrt, show ix.toNat = (ix - 0).toNat by omega]
    exact this
  have HVR0 : Hid (∀ (vr : Array Value), hv rt = .agg vr → ∀ (Ap : Option Addr) cp w, Env B a w → HIn w Ap pn cp pth → Calls Tryd.prog 47 #[.int .u64 ix, .int .u64 sz, .agg vl, .slice Ap pn cp] w fun ev w' => ev = .returned (.tuple #[.agg vr, .nilIface]) ∧ Below w.heap.size w w') := Lib.hid (fun vr ev Ap cp w h1 h2 => by
    have := vroot_ok a B ix.toNat sz.toNat lf pth rt Ap pn cp w h1 hll h2 (by omega) (by omega) hsay (by omega)
    rw [evl, ev, show ((ix.toNat : Nat) : Int) = ix by omega, show ((sz.toNat : Nat) : Int) = sz by omega] at this
    exact this.mono (fun _ _ q => ⟨q.1, q.2.2⟩))
  have HVF0 : Hid (∀ (vr : Array Value), hv rt = .agg vr → rt.length = 32 → ∀ w, Env B a w → HIn w A1 L.length k1 L → HIn w A2 P.length k2 P → Calls Tryd.prog 16 #[.int .u64 x, .int .u64 sz, .slice A1 L.length k1, .slice A2 P.length k2, .agg vr] w fun ev w' => ev = .returned .nilIface ∧ Below w.heap.size w w') := Lib.hid (fun vr ev hl w h i1 i2 => by
    have := verify_ok a B x sz A1 A2 k1 k2 L P rt hl w h i1 i2 hx0 hx1 hs0 hs1 hk
    rw [hrt, if_pos rfl, ev] at this; exact this)
  have hln : (L.length : Int) < 18446744073709551616 := by omega
  have o1 := ho.1
  have o2 := ho.2
  have HLK := Lib.hid hlk
  have lk0 : (0 : Int) ≤ lk := by omega
  have lk1 : (lk : Int) < L.length := by omega
  have hwk : IntKind.u64.wrap (lk : Int) = lk := IntWalk.u64_in _ (by omega)
  have hi5 : decide (ix < x) = false := by simp; omega
  have hi6 : decide (L.length ≤ lk) = false := by simp; omega
  have hi7 : decide ((L.length : Int) ≤ (lk : Int)) = false := by simp; omega
  have lkn : lk < L.length := by omega
  have HLF := Lib.hid (And.intro hlf hll)
  have hn1i : decide ((1 : Int) < L.length) = false := by simp; omega
  have hn1j : decide (1 < L.length) = false := by simp; omega
  have HPM : Hid (P.Perm pth) := Lib.hid (by
    have hb := HK3.out.2.2
    rw [show x + (L.length : Int) = ix + 1 by omega, show x = ix by omega] at hb
    have := pathF_one nodeH 64 (leafAt x L) ix 0 sz P (by omega) (by omega) (by rw [pow2_64]; omega) (by omega)
    rw [hb, List.take_length] at this
    rw [← hpth]
    unfold pathB
    rw [show x + (L.length : Int) = ix + 1 by omega]
    have e : pathF nodeH 64 x (ix + 1) (leafAt x L) ix 0 sz P = pathF nodeH 64 ix (ix + 1) (leafAt x L) ix 0 sz P := by rw [show x = ix by omega]
    rw [e]; exact this.symm)
  have HN1 := Lib.hid hn1
  clear hn1
  clear hg hk ho hpth hpn hla hsay evl hlf hll
  go_enter Tryd.func7, Tryd.ntmps7
  go_upto_region 1 with fail
  rw [HWB.out]
  go_wp2_with fail
  refine (alive19 a B wb (show Env B a wb from HE.out.step (show Gr w wb from (by repeat (first | exact Gr.refl _ | (refine Gr.step ?_ (by assumption)) | (refine Gr.alloc ?_ _) | (refine Gr.drew ?_)))))).mono ?_
  rintro ev w1 ⟨rfl, b1⟩
  have d0w1 := cell_below (show Gr wb w1 from (by repeat (first | exact Gr.refl _ | (refine Gr.step ?_ (by assumption)) | (refine Gr.alloc ?_ _) | (refine Gr.drew ?_)))) c0 hwb; have d1w1 := cell_below (show Gr wb w1 from (by repeat (first | exact Gr.refl _ | (refine Gr.step ?_ (by assumption)) | (refine Gr.alloc ?_ _) | (refine Gr.drew ?_)))) c1 hwb; have d2w1 := cell_below (show Gr wb w1 from (by repeat (first | exact Gr.refl _ | (refine Gr.step ?_ (by assumption)) | (refine Gr.alloc ?_ _) | (refine Gr.drew ?_)))) c2 hwb
  go_wp2_with fail
  refine (great_any A1 A2 L.length k1 P.length k2 ix w1 HM.out.1 HM.out.2).mono ?_
  rintro ev w2 ⟨rfl, b2⟩
  rw [hgd]
  have d0w2 := cell_below (show Gr wb w2 from (by repeat (first | exact Gr.refl _ | (refine Gr.step ?_ (by assumption)) | (refine Gr.alloc ?_ _) | (refine Gr.drew ?_)))) c0 hwb; have d1w2 := cell_below (show Gr wb w2 from (by repeat (first | exact Gr.refl _ | (refine Gr.step ?_ (by assumption)) | (refine Gr.alloc ?_ _) | (refine Gr.drew ?_)))) c1 hwb; have d2w2 := cell_below (show Gr wb w2 from (by repeat (first | exact Gr.refl _ | (refine Gr.step ?_ (by assumption)) | (refine Gr.alloc ?_ _) | (refine Gr.drew ?_)))) c2 hwb
  go_wp2_with fail
  refine (HROOT.out w2 (show Env B a w2 from HE.out.step (show Gr w w2 from (by repeat (first | exact Gr.refl _ | (refine Gr.step ?_ (by assumption)) | (refine Gr.alloc ?_ _) | (refine Gr.drew ?_))))) (H1.out.below (show Gr w w2 from (by repeat (first | exact Gr.refl _ | (refine Gr.step ?_ (by assumption)) | (refine Gr.alloc ?_ _) | (refine Gr.drew ?_))))) (H2.out.below (show Gr w w2 from (by repeat (first | exact Gr.refl _ | (refine Gr.step ?_ (by assumption)) | (refine Gr.alloc ?_ _) | (refine Gr.drew ?_)))))).mono ?_
  rintro ev w3 ⟨rfl, hrl, b3⟩
  obtain ⟨vr, er, Hr, Zvr, Ivr, Ovr⟩ := row_of rt hrl
  have HER := Lib.hid (And.intro er hrl)
  rw [er]
  clear er hrl
  have d0w3 := cell_below (show Gr wb w3 from (by repeat (first | exact Gr.refl _ | (refine Gr.step ?_ (by assumption)) | (refine Gr.alloc ?_ _) | (refine Gr.drew ?_)))) c0 hwb; have d1w3 := cell_below (show Gr wb w3 from (by repeat (first | exact Gr.refl _ | (refine Gr.step ?_ (by assumption)) | (refine Gr.alloc ?_ _) | (refine Gr.drew ?_)))) c1 hwb; have d2w3 := cell_below (show Gr wb w3 from (by repeat (first | exact Gr.refl _ | (refine Gr.step ?_ (by assumption)) | (refine Gr.alloc ?_ _) | (refine Gr.drew ?_)))) c2 hwb
  go_upto_region 4 with (refine wpList_store_row_any rfl 29 _ _ rfl w3.heap.size vr rfl rfl 29 _ (heap_at _ _ _ rfl) Ivr.out (by rw [Zvr.out]; rfl) Ovr.out ?_; intro w4 hbN hgN hsN; have b4 : Below w3.heap.size w3 w4 := ((Below.refl _ w3).alloc (Nat.le_refl _) _).trans (hbN.to_below (by simp) (fun k hk q => by omega)); have Rw4 := Lib.hid hgN; have d0w4 := cell_below (show Gr wb w4 from (by repeat (first | exact Gr.refl _ | (refine Gr.step ?_ (by assumption)) | (refine Gr.alloc ?_ _) | (refine Gr.drew ?_)))) c0 hwb; have d1w4 := cell_below (show Gr wb w4 from (by repeat (first | exact Gr.refl _ | (refine Gr.step ?_ (by assumption)) | (refine Gr.alloc ?_ _) | (refine Gr.drew ?_)))) c1 hwb; have d2w4 := cell_below (show Gr wb w4 from (by repeat (first | exact Gr.refl _ | (refine Gr.step ?_ (by assumption)) | (refine Gr.alloc ?_ _) | (refine Gr.drew ?_)))) c2 hwb; clear hbN hgN hsN)
  have KR : Hid (∀ w', Gr w4 w' → w'.heap[w3.heap.size]? = some (.cells vr 29 (0, 0))) := Lib.hid (fun w' h => (h.block _ (Array.getElem?_eq_some_iff.1 Rw4.out).1).trans Rw4.out)
  have HVR := Lib.hid (HVR0.out vr HER.out.1)
  have HVF := Lib.hid (HVF0.out vr HER.out.1 HER.out.2)
  have hqr := eq_selfC2 rt HER.out.2 vr HER.out.1
  go_wp2_with fail
  refine (HBP.out w4 (show Env B a w4 from HE.out.step (show Gr w w4 from (by repeat (first | exact Gr.refl _ | (refine Gr.step ?_ (by assumption)) | (refine Gr.alloc ?_ _) | (refine Gr.drew ?_))))) (H1.out.below (show Gr w w4 from (by repeat (first | exact Gr.refl _ | (refine Gr.step ?_ (by assumption)) | (refine Gr.alloc ?_ _) | (refine Gr.drew ?_))))) (H2.out.below (show Gr w w4 from (by repeat (first | exact Gr.refl _ | (refine Gr.step ?_ (by assumption)) | (refine Gr.alloc ?_ _) | (refine Gr.drew ?_)))))).mono ?_
  rintro ev w5 ⟨h32p, vp, rfl, ownp, b5⟩
  rw [HPN.out] at ownp
  obtain ⟨Ap, cp, rfl, hcp⟩ := own_shape ownp
  have YP := Lib.hid (own_hin ownp h32p HPN.out)
  have HVR := Lib.hid (HVR.out Ap cp)
  clear h32p ownp
  have d0w5 := cell_below (show Gr wb w5 from (by repeat (first | exact Gr.refl _ | (refine Gr.step ?_ (by assumption)) | (refine Gr.alloc ?_ _) | (refine Gr.drew ?_)))) c0 hwb; have d1w5 := cell_below (show Gr wb w5 from (by repeat (first | exact Gr.refl _ | (refine Gr.step ?_ (by assumption)) | (refine Gr.alloc ?_ _) | (refine Gr.drew ?_)))) c1 hwb; have d2w5 := cell_below (show Gr wb w5 from (by repeat (first | exact Gr.refl _ | (refine Gr.step ?_ (by assumption)) | (refine Gr.alloc ?_ _) | (refine Gr.drew ?_)))) c2 hwb
  have Z5 := Lib.hid (H1.out.below (show Gr w w5 from (by repeat (first | exact Gr.refl _ | (refine Gr.step ?_ (by assumption)) | (refine Gr.alloc ?_ _) | (refine Gr.drew ?_)))))
  go_upto_region 9 with fail
  obtain ⟨g, o, rfl, gl, rl, _⟩ := Z5.out.row HLF.out.1
  obtain ⟨pl, hpl⟩ : ∃ p, bytesV lf = p := ⟨_, rfl⟩
  have HPL : Hid (pl.toArray = vl) := Lib.hid (by rw [← hpl]; exact Hvl.out)
  have IL : Hid ((Tryd.prog.info? 29).map (·.size) = some pl.length) := Lib.hid (by rw [← hpl, bytesV_length, HLF.out.2]; kernel_rfl)
  rw [hpl] at rl
  have KL : Hid (∀ w', Gr w5 w' → w'.rangeAt g (o + lk * 32) pl) := Lib.hid (fun w' h => rangeAt_below h rl gl)
  have VL : Hid (Value.agg pl.toArray = .agg vl) := Lib.hid (by rw [HPL.out])
  have HVR : Hid (∀ w, Env B a w → HIn w Ap pn cp pth → Calls Tryd.prog 47 #[.int .u64 ix, .int .u64 sz, .agg pl.toArray, .slice Ap pn cp] w fun ev w' => ev = .returned (.tuple #[.agg vr, .nilIface]) ∧ Below w.heap.size w w') := Lib.hid (by rw [HPL.out]; exact HVR.out)
  clear hpl rl gl
  have hb5 : w.heap.size < w5.heap.size := by have := (show Gr wb w5 from (by repeat (first | exact Gr.refl _ | (refine Gr.step ?_ (by assumption)) | (refine Gr.alloc ?_ _) | (refine Gr.drew ?_)))).size; omega
  have KC0 := Lib.hid (fun w' (h : Gr w5 w') => cell_below h d0w5 hb5)
  have KC2 := Lib.hid (fun w' (h : Gr w5 w') => cell_below h d2w5 hb5)
  refine wp_region_held_drew (S := Gr w5) (by kernel_rfl) ((Gr.refl _).drew) (fun hHeld => ?_)
  refine wpAnyH_take (i := 0) (v := ?tv23) rfl (by kernel_rfl) (by kernel_rfl) (by kernel_rfl) (fun _ _ _ h => h) (Or.inl ⟨by rfl, ?ty23⟩) (by assumption) ?tr23
  case ty23 => (intro w hSw; (try dsimp only at hSw); go_simp; (try with_reducible rfl))
  try simp only [Act.put, List.getElem_toArray, List.getElem_cons_zero, List.setIfInBounds_toArray, List.set_cons_zero, List.set_cons_succ]
  refine wpAnyH_take (i := 1) (v := ?tv24) rfl (by kernel_rfl) (by kernel_rfl) (by kernel_rfl) (fun _ _ _ h => h) (Or.inl ⟨by rfl, ?ty24⟩) (by assumption) ?tr24
  case ty24 => (intro w hSw; (try dsimp only at hSw); have eC := KC2.out w hSw; go_simp; (try with_reducible rfl))
  try simp only [Act.put, List.getElem_toArray, List.getElem_cons_zero, List.getElem_cons_succ, List.setIfInBounds_toArray, List.set_cons_zero, List.set_cons_succ]
  refine wpAnyH_take (i := 2) (v := ?tv25) rfl (by kernel_rfl) (by kernel_rfl) (by kernel_rfl) (fun _ _ _ h => h) (Or.inl ⟨by rfl, ?ty25⟩) (by assumption) ?tr25
  case ty25 => (intro w hSw; (try dsimp only at hSw); go_simp; (try with_reducible rfl))
  try simp only [Act.put, List.getElem_toArray, List.getElem_cons_zero, List.getElem_cons_succ, List.setIfInBounds_toArray, List.set_cons_zero, List.set_cons_succ]
  refine wpAnyH_take (i := 3) (v := ?tv26) rfl (by kernel_rfl) (by kernel_rfl) (by kernel_rfl) (fun _ _ _ h => h) (Or.inl ⟨by rfl, ?ty26⟩) (by assumption) ?tr26
  case ty26 => (intro w hSw; (try dsimp only at hSw); go_simp; (try with_reducible rfl))
  try simp only [Act.put, List.getElem_toArray, List.getElem_cons_zero, List.getElem_cons_succ, List.setIfInBounds_toArray, List.set_cons_zero, List.set_cons_succ]
  refine wpAnyH_take (i := 4) (v := ?tv27) rfl (by kernel_rfl) (by kernel_rfl) (by kernel_rfl) (fun _ _ _ h => h) (Or.inl ⟨by rfl, ?ty27⟩) (by assumption) ?tr27
  case ty27 => (intro w hSw; (try dsimp only at hSw); have eC := KC0.out w hSw; go_simp; (try with_reducible rfl))
  try simp only [Act.put, List.getElem_toArray, List.getElem_cons_zero, List.getElem_cons_succ, List.setIfInBounds_toArray, List.set_cons_zero, List.set_cons_succ]
  refine wpAnyH_take (i := 5) (v := ?tv28) rfl (by kernel_rfl) (by kernel_rfl) (by kernel_rfl) (fun _ _ _ h => h) (Or.inl ⟨by rfl, ?ty28⟩) (by assumption) ?tr28
  case ty28 => (intro w hSw; (try dsimp only at hSw); go_simp; (try with_reducible rfl))
  try simp only [Act.put, List.getElem_toArray, List.getElem_cons_zero, List.getElem_cons_succ, List.setIfInBounds_toArray, List.set_cons_zero, List.set_cons_succ]
  refine wpAnyH_take (i := 6) (v := ?tv29) rfl (by kernel_rfl) (by kernel_rfl) (by kernel_rfl) (fun _ _ _ h => h) (Or.inl ⟨by rfl, ?ty29⟩) (by assumption) ?tr29
  case ty29 => (intro w hSw; (try dsimp only at hSw); have eC := KC2.out w hSw; go_simp; (try with_reducible rfl))
  try simp only [Act.put, List.getElem_toArray, List.getElem_cons_zero, List.getElem_cons_succ, List.setIfInBounds_toArray, List.set_cons_zero, List.set_cons_succ]
  refine wpAnyH_take (i := 7) (v := ?tv30) rfl (by kernel_rfl) (by kernel_rfl) (by kernel_rfl) (fun _ _ _ h => h) (Or.inl ⟨by rfl, ?ty30⟩) (by assumption) ?tr30
  case ty30 => (intro w hSw; (try dsimp only at hSw); go_simp; (try with_reducible rfl))
  try simp only [Act.put, List.getElem_toArray, List.getElem_cons_zero, List.getElem_cons_succ, List.setIfInBounds_toArray, List.set_cons_zero, List.set_cons_succ]
  refine wpAnyH_take (i := 8) (v := ?tv31) rfl (by kernel_rfl) (by kernel_rfl) (by kernel_rfl) (fun _ _ _ h => h) (Or.inl ⟨by rfl, ?ty31⟩) (by assumption) ?tr31
  case ty31 => (intro w hSw; (try dsimp only at hSw); go_simp; (try with_reducible rfl))
  try simp only [Act.put, List.getElem_toArray, List.getElem_cons_zero, List.getElem_cons_succ, List.setIfInBounds_toArray, List.set_cons_zero, List.set_cons_succ]
  refine wpAnyH_take (i := 9) (v := ?tv32) rfl (by kernel_rfl) (by kernel_rfl) (by kernel_rfl) (fun _ _ _ h => h) (Or.inl ⟨by rfl, ?ty32⟩) (by assumption) ?tr32
  case ty32 => (intro w hSw; (try dsimp only at hSw); go_simp; (try with_reducible rfl))
  try simp only [Act.put, List.getElem_toArray, List.getElem_cons_zero, List.getElem_cons_succ, List.setIfInBounds_toArray, List.set_cons_zero, List.set_cons_succ]
  refine wpAnyH_take (i := 10) (v := _) rfl (by kernel_rfl) (by kernel_rfl) (by kernel_rfl) (fun _ _ _ h => h) (yieldsIf_load_mid (by rfl) 29 _ (by rfl) g (o + lk * 32) (by first | rfl | simp [HLK.out]) pl _ (fun w h => KL.out w h) Tryd.underlying29 (by rfl) IL.out) (by assumption) ?_
  try simp only [Act.put, List.getElem_toArray, List.getElem_cons_zero, List.getElem_cons_succ, List.setIfInBounds_toArray, List.set_cons_zero, List.set_cons_succ]
  refine wpAnyH_take (i := 11) (v := ?tv34) rfl (by kernel_rfl) (by kernel_rfl) (by kernel_rfl) (fun _ _ _ h => h) (Or.inl ⟨by rfl, ?ty34⟩) (by assumption) ?tr34
  case ty34 => (intro w hSw; (try dsimp only at hSw); go_simp; (try with_reducible rfl))
  try simp only [Act.put, List.getElem_toArray, List.getElem_cons_zero, List.getElem_cons_succ, List.setIfInBounds_toArray, List.set_cons_zero, List.set_cons_succ]
  refine wpAnyH_ready (rs := [12, 16]) (by kernel_rfl) (by simp) ?_
  refine AllReadyH.cons (i := 12) rfl (fun K2 hK2 => ?_) ?more35
  · skip
    go_simp
    go_at_call 47
    refine (HVR.out w5.drew (show Env B a w5.drew from HE.out.step (show Gr w w5.drew from (by repeat (first | exact Gr.refl _ | (refine Gr.step ?_ (by assumption)) | (refine Gr.alloc ?_ _) | (refine Gr.drew ?_))))) (YP.out.below (show Gr w5 w5.drew from (by repeat (first | exact Gr.refl _ | (refine Gr.step ?_ (by assumption)) | (refine Gr.alloc ?_ _) | (refine Gr.drew ?_)))))).mono ?_
    rintro ev w103 ⟨rfl, b103⟩
    try go_wp2_with fail
    refine hK2.out _ _ (show Gr w5 _ from (by repeat (first | exact Gr.refl _ | (refine Gr.step ?_ (by assumption)) | (refine Gr.alloc ?_ _) | (refine Gr.drew ?_)))) (fun hHeld2 => ?_)
    clear hK2 K2
    try simp only [Act.put, List.getElem_toArray, List.getElem_cons_zero, List.getElem_cons_succ, List.setIfInBounds_toArray, List.set_cons_zero, List.set_cons_succ]
    refine wpAnyH_take (i := 13) (v := ?tv36) rfl (by kernel_rfl) (by kernel_rfl) (by kernel_rfl) (fun _ _ _ h => h) (Or.inl ⟨by rfl, ?ty36⟩) (by assumption) ?tr36
    case ty36 => (intro w hSw; (try dsimp only at hSw); go_simp; (try with_reducible rfl))
    try simp only [Act.put, List.getElem_toArray, List.getElem_cons_zero, List.getElem_cons_succ, List.setIfInBounds_toArray, List.set_cons_zero, List.set_cons_succ]
    refine wpAnyH_take (i := 14) (v := ?tv37) rfl (by kernel_rfl) (by kernel_rfl) (by kernel_rfl) (fun _ _ _ h => h) (Or.inl ⟨by rfl, ?ty37⟩) (by assumption) ?tr37
    case ty37 => (intro w hSw; (try dsimp only at hSw); go_simp; (try with_reducible rfl))
    try simp only [Act.put, List.getElem_toArray, List.getElem_cons_zero, List.getElem_cons_succ, List.setIfInBounds_toArray, List.set_cons_zero, List.set_cons_succ]
    refine wpAnyH_take (i := 15) (v := ?tv38) rfl (by kernel_rfl) (by kernel_rfl) (by kernel_rfl) (fun _ _ _ h => h) (Or.inl ⟨by rfl, ?ty38⟩) (by assumption) ?tr38
    case ty38 => (intro w hSw; (try dsimp only at hSw); go_simp; (try with_reducible rfl))
    try simp only [Act.put, List.getElem_toArray, List.getElem_cons_zero, List.getElem_cons_succ, List.setIfInBounds_toArray, List.set_cons_zero, List.set_cons_succ]
    refine wpAnyH_ready (rs := [16]) (by kernel_rfl) (by simp) ?_
    refine AllReadyH.cons (i := 16) rfl (fun K2 hK2 => ?_) AllReadyH.nil
    go_simp
    obtain ⟨wa3, hwa3⟩ : ∃ x, (w103.alloc (.cells (List.replicate 32 (Value.int .u8 0)).toArray 29)) = x := ⟨_, rfl⟩
    have bwa3 : Below w103.heap.size w103 wa3 := by rw [← hwa3]; exact ((Below.refl _ w103).alloc (Nat.le_refl _) _)
    have Ra : Hid (wa3.heap[w103.heap.size]? = some (.cells (List.replicate 32 (Value.int .u8 0)).toArray 29 (0, 0))) := Lib.hid (by rw [← hwa3]; exact heap_at w103 _ _ rfl)
    have hsa : w103.heap.size < wa3.heap.size := by rw [← hwa3]; simp
    simp only [List.replicate] at hwa3
    rw [hwa3]
    clear hwa3
    refine hK2.out _ _ (show Gr w5 _ from (by repeat (first | exact Gr.refl _ | (refine Gr.step ?_ (by assumption)) | (refine Gr.alloc ?_ _) | (refine Gr.drew ?_)))) (fun hHeld2 => ?_)
    clear hK2 K2
    try simp only [Act.put, List.getElem_toArray, List.getElem_cons_zero, List.getElem_cons_succ, List.setIfInBounds_toArray, List.set_cons_zero, List.set_cons_succ]
    refine wpAnyH_ready (rs := [17]) (by kernel_rfl) (by simp) ?_
    refine AllReadyH.cons (i := 17) rfl (fun K2 hK2 => ?_) AllReadyH.nil
    rw [if_pos (by rfl)]
    refine wp_store_row 29 _ _ rfl w103.heap.size vr rfl rfl 29 _ (Ra.out) Ivr.out (by rw [Zvr.out]; simp) Ovr.out ?_
    refine hK2.out _ _ (show Gr w5 _ from below_setRow (show Gr w5 wa3 from (by repeat (first | exact Gr.refl _ | (refine Gr.step ?_ (by assumption)) | (refine Gr.alloc ?_ _) | (refine Gr.drew ?_)))) _ _ (by have := (show Gr w5 w103 from (by repeat (first | exact Gr.refl _ | (refine Gr.step ?_ (by assumption)) | (refine Gr.alloc ?_ _) | (refine Gr.drew ?_)))).size; omega)) (fun hHeld2 => ?_)
    clear hK2 K2
    try simp only [Act.put, List.getElem_toArray, List.getElem_cons_zero, List.getElem_cons_succ]
    refine wpAnyH_take (i := 18) (v := ?tv39) rfl (by kernel_rfl) (by kernel_rfl) (by kernel_rfl) (fun _ _ _ h => h) (Or.inl ⟨by rfl, ?ty39⟩) (by assumption) ?tr39
    case ty39 => (intro w hSw; (try dsimp only at hSw); go_simp; (try with_reducible rfl))
    try simp only [Act.put, List.getElem_toArray, List.getElem_cons_zero, List.getElem_cons_succ, List.setIfInBounds_toArray, List.set_cons_zero, List.set_cons_succ]
    refine wpAnyH_done (by kernel_rfl) ?_ _
    have bF : Below w5.heap.size w5 (wa3.setRow w103.heap.size vr) := below_setRow (show Gr w5 wa3 from (by repeat (first | exact Gr.refl _ | (refine Gr.step ?_ (by assumption)) | (refine Gr.alloc ?_ _) | (refine Gr.drew ?_)))) _ _ (by have := (show Gr w5 w103 from (by repeat (first | exact Gr.refl _ | (refine Gr.step ?_ (by assumption)) | (refine Gr.alloc ?_ _) | (refine Gr.drew ?_)))).size; omega)
    have RF : Hid ((wa3.setRow w103.heap.size vr).heap[w103.heap.size]? = some (.cells vr 29 (0, 0))) := Lib.hid (setRow_heap _ _ _ _ _ _ (Ra.out))
    have hrF : w5.heap.size ≤ w103.heap.size := (show Gr w5 w103 from (by repeat (first | exact Gr.refl _ | (refine Gr.step ?_ (by assumption)) | (refine Gr.alloc ?_ _) | (refine Gr.drew ?_)))).size
    obtain ⟨wF, hwF⟩ : ∃ x, wa3.setRow w103.heap.size vr = x := ⟨_, rfl⟩
    rw [hwF] at bF RF ⊢
    obtain ⟨rF, hrF'⟩ : ∃ x, w103.heap.size = x := ⟨_, rfl⟩
    rw [hrF'] at RF ⊢
    clear hwF hrF'
    have KF : Hid (∀ w', Gr wF w' → w'.heap[rF]? = some (.cells vr 29 (0, 0))) := Lib.hid (fun w' h => (h.block _ (Array.getElem?_eq_some_iff.1 RF.out).1).trans RF.out)
    have d0wF := cell_below (show Gr wb wF from (by repeat (first | exact Gr.refl _ | (refine Gr.step ?_ (by assumption)) | (refine Gr.alloc ?_ _) | (refine Gr.drew ?_)))) c0 hwb; have d1wF := cell_below (show Gr wb wF from (by repeat (first | exact Gr.refl _ | (refine Gr.step ?_ (by assumption)) | (refine Gr.alloc ?_ _) | (refine Gr.drew ?_)))) c1 hwb; have d2wF := cell_below (show Gr wb wF from (by repeat (first | exact Gr.refl _ | (refine Gr.step ?_ (by assumption)) | (refine Gr.alloc ?_ _) | (refine Gr.drew ?_)))) c2 hwb
    go_wp2_with (first | (refine wpList_load_row_g rfl 29 _ rfl rF rfl 29 vr (0, 0) _ RF.out Tryd.underlying29 rfl Ivr.out ?_) | (refine wpList_load_row_g rfl 29 _ rfl w3.heap.size rfl 29 vr (0, 0) _ (KR.out wF (show Gr w4 wF from (by repeat (first | exact Gr.refl _ | (refine Gr.step ?_ (by assumption)) | (refine Gr.alloc ?_ _) | (refine Gr.drew ?_))))) Tryd.underlying29 rfl Ivr.out ?_))
    refine (HVF.out wF (show Env B a wF from HE.out.step (show Gr w wF from (by repeat (first | exact Gr.refl _ | (refine Gr.step ?_ (by assumption)) | (refine Gr.alloc ?_ _) | (refine Gr.drew ?_))))) (H1.out.below (show Gr w wF from (by repeat (first | exact Gr.refl _ | (refine Gr.step ?_ (by assumption)) | (refine Gr.alloc ?_ _) | (refine Gr.drew ?_))))) (H2.out.below (show Gr w wF from (by repeat (first | exact Gr.refl _ | (refine Gr.step ?_ (by assumption)) | (refine Gr.alloc ?_ _) | (refine Gr.drew ?_)))))).mono ?_
    rintro ev w8 ⟨rfl, b8⟩
    have d0w8 := cell_below (show Gr wb w8 from (by repeat (first | exact Gr.refl _ | (refine Gr.step ?_ (by assumption)) | (refine Gr.alloc ?_ _) | (refine Gr.drew ?_)))) c0 hwb; have d1w8 := cell_below (show Gr wb w8 from (by repeat (first | exact Gr.refl _ | (refine Gr.step ?_ (by assumption)) | (refine Gr.alloc ?_ _) | (refine Gr.drew ?_)))) c1 hwb; have d2w8 := cell_below (show Gr wb w8 from (by repeat (first | exact Gr.refl _ | (refine Gr.step ?_ (by assumption)) | (refine Gr.alloc ?_ _) | (refine Gr.drew ?_)))) c2 hwb
    go_wp2_with (refine wpList_app_hin rfl (.tmp 126) (.tmp 128) rfl none A2 0 P.length k2 [] P rfl rfl ⟨(fun _ h => by cases h), rfl, Nat.le_refl _, by omega, .inl rfl⟩ (H2.out.below (show Gr w w8 from (by repeat (first | exact Gr.refl _ | (refine Gr.step ?_ (by assumption)) | (refine Gr.alloc ?_ _) | (refine Gr.drew ?_))))) (by omega) (by have := HG.out; omega) ?_; intro AL cL w9 hL9 b9; have HL9 := Lib.hid hL9; clear hL9)
    go_loopw [13, 14, 15] (fun lv iv kv wr => ∃ (i n : Nat) (A : Option Addr) (c : Nat) (Lf : List (List UInt8)), i ≤ pn ∧ n ≤ 64 ∧ lv = .slice A n c ∧ iv = .int .i64 i ∧ Hid (HIn wr A n c Lf) ∧ Hid (Lf.Perm (pth.drop i)) ∧ Hid (Gr w9 wr)) (fun _ iv _ _ => pn - (intOf iv).toNat)
    case atStart => exact ⟨0, P.length, AL, cL, P, Nat.zero_le _, by have := HPM.out.length_eq; have := HPN.out; omega, by simp, rfl, Lib.hid (by simpa using HL9.out), Lib.hid (by simpa using HPM.out), Lib.hid (Gr.refl _)⟩
    case round =>
      obtain ⟨i, n, A, c, Lf, hi, hn64, rfl, rfl, HZ0, HP0, HG9⟩ := hrel
      obtain ⟨wo, rfl⟩ : ∃ x, x = wr := ⟨_, rfl⟩
      have g9 : Below w9.heap.size w9 wo := HG9.out
      by_cases hlt : i < pn
      · have i0 : (0 : Int) ≤ i := by omega
        have i1 : (i : Int) < pn := by omega
        obtain ⟨q, hq0⟩ : ∃ q, pth[i]? = some q := ⟨_, List.getElem?_eq_getElem (by have := HPN.out; omega)⟩
        have HDR : Hid (pth.drop i = q :: pth.drop (i + 1)) := Lib.hid (by
          have hkl : i < pth.length := by have := HPN.out; omega
          rw [List.drop_eq_getElem_cons hkl]; congr 1
          rw [List.getElem?_eq_getElem hkl] at hq0; exact Option.some.inj hq0)
        obtain ⟨g2, o2, rfl, gl2, r2, q32⟩ := (YP.out.below (show Gr w5 wo from (by repeat (first | exact Gr.refl _ | (refine Gr.step ?_ (by assumption)) | (refine Gr.alloc ?_ _) | (refine Gr.drew ?_))))).row hq0
        obtain ⟨py, hpy⟩ : ∃ py, bytesV q = py := ⟨_, rfl⟩
        have HI2 := Lib.hid (show (Tryd.prog.info? 29).map (·.size) = some py.length by rw [← hpy, bytesV_length, q32]; kernel_rfl)
        have HQ32 := Lib.hid (And.intro q32 hpy)
        rw [hpy] at r2
        have KY : Hid (∀ w', Gr wo w' → w'.rangeAt g2 (o2 + i * 32) py) := Lib.hid (fun w' h => rangeAt_below h r2 gl2)
        have HMEM : Hid (∃ t, t < n ∧ Lf[t]? = some q) := Lib.hid (by
          have hm : q ∈ Lf := HP0.out.symm.subset (by rw [HDR.out]; exact List.mem_cons_self ..)
          obtain ⟨t, ht⟩ := List.mem_iff_getElem?.1 hm
          exact ⟨t, by have := (List.getElem?_eq_some_iff.1 ht).1; have := HZ0.out.2.1; omega, ht⟩)
        clear hq0 r2 gl2 q32 hpy
        go_wp2_with fail
        go_loopw [15] (fun kv wr => ∃ j : Nat, j ≤ n ∧ kv = .int .i64 j ∧ Hid (∀ t, t < j → Lf[t]? ≠ some q) ∧ Hid (Gr wo wr)) (fun kv _ => n - (intOf kv).toNat)
        case atStart => exact ⟨0, Nat.zero_le _, rfl, Lib.hid (fun t h => by omega), Lib.hid (Gr.refl _)⟩
        case round =>
          obtain ⟨j, hj, rfl, HNO, HGZ⟩ := hrel
          have gz : Below wo.heap.size wo wr := HGZ.out
          by_cases hjn : j < n
          · have j0 : (0 : Int) ≤ j := by omega
            have j1 : (j : Int) < n := by omega
            obtain ⟨p, hp0⟩ : ∃ p, Lf[j]? = some p := ⟨_, List.getElem?_eq_getElem (by have := HZ0.out.2.1; omega)⟩
            obtain ⟨g1, o1, rfl, gl1, r1, p32⟩ := (HZ0.out.below gz).row hp0
            obtain ⟨px, hpx⟩ : ∃ px, bytesV p = px := ⟨_, rfl⟩
            have HI1 := Lib.hid (show (Tryd.prog.info? 29).map (·.size) = some px.length by rw [← hpx, bytesV_length, p32]; kernel_rfl)
            rw [hpx] at r1
            have K1 : Hid (∀ w', Gr wr w' → w'.rangeAt g1 (o1 + j * 32) px) := Lib.hid (fun w' h => rangeAt_below h r1 gl1)
            have K2y : Hid (∀ w', Gr wr w' → w'.rangeAt g2 (o2 + i * 32) py) := Lib.hid (fun w' h => KY.out w' (Gr.step HGZ.out h))
            have HZ : Hid (∀ w', Gr wr w' → HIn w' (some ⟨g1, o1, none⟩) n c Lf) := Lib.hid (fun w' h => HZ0.out.below (Gr.step HGZ.out h))
            have hjc : j ≤ c := by have := HZ0.out.2.2.1; omega
            have hjc1 : j + 1 ≤ c := by have := HZ0.out.2.2.1; omega
            have hjn1 : j + 1 ≤ n := by omega
            have hj1i : (j : Int) + 1 ≤ n := by omega
            have hj1p : (0 : Int) ≤ (j : Int) + 1 := by omega
            have hwj : IntKind.i64.wrap ((j : Int) + 1) = (j : Int) + 1 := IntWalk.i64_in _ (by omega)
            have hcn : n ≤ c ∧ c ≤ 9223372036854775807 := ⟨HZ0.out.2.2.1, HZ0.out.2.2.2.1⟩
            have hq : ∀ w, (Op.equalIn 10000 29 (.agg px.toArray) (.agg py.toArray)).run Tryd.prog w = .ok (p == q) w := fun w => eq_hash p q p32 HQ32.out.1 _ _ (by rw [hv, hpx]) (by rw [hv, HQ32.out.2]) w
            have HPJ := Lib.hid hp0
            clear hp0 r1 gl1 p32 hpx
            by_cases hpq : p = q
            · have hb : (p == q) = true := by simp [hpq]
              rw [hb] at hq
              have HE2 := Lib.hid hpq
              clear hb hpq
              go_upto_region 20 with fail
              refine wp_region_held_drew (S := Gr wr) (by kernel_rfl) ((Gr.refl _).drew) (fun hHeld => ?_)
              refine wpAnyH_take (i := 0) (v := ?tv40) rfl (by kernel_rfl) (by kernel_rfl) (by kernel_rfl) (fun _ _ _ h => h) (Or.inl ⟨by rfl, ?ty40⟩) (by assumption) ?tr40
              case ty40 => (intro w hSw; (try dsimp only at hSw); go_simp; (try with_reducible rfl))
              try simp only [Act.put, List.getElem_toArray, List.getElem_cons_zero, List.setIfInBounds_toArray, List.set_cons_zero, List.set_cons_succ]
              refine wpAnyH_take (i := 1) (v := ?tv41) rfl (by kernel_rfl) (by kernel_rfl) (by kernel_rfl) (fun _ _ _ h => h) (Or.inl ⟨by rfl, ?ty41⟩) (by assumption) ?tr41
              case ty41 => (intro w hSw; (try dsimp only at hSw); go_simp; (try with_reducible rfl))
              try simp only [Act.put, List.getElem_toArray, List.getElem_cons_zero, List.getElem_cons_succ, List.setIfInBounds_toArray, List.set_cons_zero, List.set_cons_succ]
              refine wpAnyH_take (i := 2) (v := ?tv42) rfl (by kernel_rfl) (by kernel_rfl) (by kernel_rfl) (fun _ _ _ h => h) (Or.inl ⟨by rfl, ?ty42⟩) (by assumption) ?tr42
              case ty42 => (intro w hSw; (try dsimp only at hSw); go_simp; (try with_reducible rfl))
              try simp only [Act.put, List.getElem_toArray, List.getElem_cons_zero, List.getElem_cons_succ, List.setIfInBounds_toArray, List.set_cons_zero, List.set_cons_succ]
              refine wpAnyH_take (i := 3) (v := ?tv43) rfl (by kernel_rfl) (by kernel_rfl) (by kernel_rfl) (fun _ _ _ h => h) (Or.inl ⟨by rfl, ?ty43⟩) (by assumption) ?tr43
              case ty43 => (intro w hSw; (try dsimp only at hSw); go_simp; (try with_reducible rfl))
              try simp only [Act.put, List.getElem_toArray, List.getElem_cons_zero, List.getElem_cons_succ, List.setIfInBounds_toArray, List.set_cons_zero, List.set_cons_succ]
              refine wpAnyH_take (i := 4) (v := ?tv44) rfl (by kernel_rfl) (by kernel_rfl) (by kernel_rfl) (fun _ _ _ h => h) (Or.inl ⟨by rfl, ?ty44⟩) (by assumption) ?tr44
              case ty44 => (intro w hSw; (try dsimp only at hSw); go_simp; (try with_reducible rfl))
              try simp only [Act.put, List.getElem_toArray, List.getElem_cons_zero, List.getElem_cons_succ, List.setIfInBounds_toArray, List.set_cons_zero, List.set_cons_succ]
              refine wpAnyH_take (i := 5) (v := ?tv45) rfl (by kernel_rfl) (by kernel_rfl) (by kernel_rfl) (fun _ _ _ h => h) (Or.inl ⟨by rfl, ?ty45⟩) (by assumption) ?tr45
              case ty45 => (intro w hSw; (try dsimp only at hSw); go_simp; (try with_reducible rfl))
              try simp only [Act.put, List.getElem_toArray, List.getElem_cons_zero, List.getElem_cons_succ, List.setIfInBounds_toArray, List.set_cons_zero, List.set_cons_succ]
              refine wpAnyH_take (i := 6) (v := ?tv46) rfl (by kernel_rfl) (by kernel_rfl) (by kernel_rfl) (fun _ _ _ h => h) (Or.inl ⟨by rfl, ?ty46⟩) (by assumption) ?tr46
              case ty46 => (intro w hSw; (try dsimp only at hSw); go_simp; (try with_reducible rfl))
              try simp only [Act.put, List.getElem_toArray, List.getElem_cons_zero, List.getElem_cons_succ, List.setIfInBounds_toArray, List.set_cons_zero, List.set_cons_succ]
              refine wpAnyH_take (i := 7) (v := ?tv47) rfl (by kernel_rfl) (by kernel_rfl) (by kernel_rfl) (fun _ _ _ h => h) (Or.inl ⟨by rfl, ?ty47⟩) (by assumption) ?tr47
              case ty47 => (intro w hSw; (try dsimp only at hSw); go_simp; (try with_reducible rfl))
              try simp only [Act.put, List.getElem_toArray, List.getElem_cons_zero, List.getElem_cons_succ, List.setIfInBounds_toArray, List.set_cons_zero, List.set_cons_succ]
              refine wpAnyH_take (i := 8) (v := _) rfl (by kernel_rfl) (by kernel_rfl) (by kernel_rfl) (fun _ _ _ h => h) (yieldsIf_load_mid (by rfl) 29 _ (by rfl) g1 (o1 + j * 32) (by first | rfl | simp) px _ (fun w h => K1.out w h) Tryd.underlying29 (by rfl) HI1.out) (by assumption) ?_
              try simp only [Act.put, List.getElem_toArray, List.getElem_cons_zero, List.getElem_cons_succ, List.setIfInBounds_toArray, List.set_cons_zero, List.set_cons_succ]
              refine wpAnyH_take (i := 9) (v := ?tv49) rfl (by kernel_rfl) (by kernel_rfl) (by kernel_rfl) (fun _ _ _ h => h) (Or.inl ⟨by rfl, ?ty49⟩) (by assumption) ?tr49
              case ty49 => (intro w hSw; (try dsimp only at hSw); go_simp; (try with_reducible rfl))
              try simp only [Act.put, List.getElem_toArray, List.getElem_cons_zero, List.getElem_cons_succ, List.setIfInBounds_toArray, List.set_cons_zero, List.set_cons_succ]
              refine wpAnyH_take (i := 10) (v := ?tv50) rfl (by kernel_rfl) (by kernel_rfl) (by kernel_rfl) (fun _ _ _ h => h) (Or.inl ⟨by rfl, ?ty50⟩) (by assumption) ?tr50
              case ty50 => (intro w hSw; (try dsimp only at hSw); go_simp; (try with_reducible rfl))
              try simp only [Act.put, List.getElem_toArray, List.getElem_cons_zero, List.getElem_cons_succ, List.setIfInBounds_toArray, List.set_cons_zero, List.set_cons_succ]
              refine wpAnyH_take (i := 11) (v := ?tv51) rfl (by kernel_rfl) (by kernel_rfl) (by kernel_rfl) (fun _ _ _ h => h) (Or.inl ⟨by rfl, ?ty51⟩) (by assumption) ?tr51
              case ty51 => (intro w hSw; (try dsimp only at hSw); go_simp; (try with_reducible rfl))
              try simp only [Act.put, List.getElem_toArray, List.getElem_cons_zero, List.getElem_cons_succ, List.setIfInBounds_toArray, List.set_cons_zero, List.set_cons_succ]
              refine wpAnyH_take (i := 12) (v := _) rfl (by kernel_rfl) (by kernel_rfl) (by kernel_rfl) (fun _ _ _ h => h) (yieldsIf_load_mid (by rfl) 29 _ (by rfl) g2 (o2 + i * 32) (by first | rfl | simp) py _ (fun w h => K2y.out w h) Tryd.underlying29 (by rfl) HI2.out) (by assumption) ?_
              try simp only [Act.put, List.getElem_toArray, List.getElem_cons_zero, List.getElem_cons_succ, List.setIfInBounds_toArray, List.set_cons_zero, List.set_cons_succ]
              refine wpAnyH_take (i := 13) (v := ?tv53) rfl (by kernel_rfl) (by kernel_rfl) (by kernel_rfl) (fun _ _ _ h => h) (Or.inl ⟨by rfl, ?ty53⟩) (by assumption) ?tr53
              case ty53 => (intro w hSw; (try dsimp only at hSw); go_simp; (try with_reducible rfl))
              try simp only [Act.put, List.getElem_toArray, List.getElem_cons_zero, List.getElem_cons_succ, List.setIfInBounds_toArray, List.set_cons_zero, List.set_cons_succ]
              refine wpAnyH_take (i := 14) (v := ?tv54) rfl (by kernel_rfl) (by kernel_rfl) (by kernel_rfl) (fun _ _ _ h => h) (Or.inl ⟨by rfl, ?ty54⟩) (by assumption) ?tr54
              case ty54 => (intro w hSw; (try dsimp only at hSw); go_simp; (try with_reducible rfl))
              try simp only [Act.put, List.getElem_toArray, List.getElem_cons_zero, List.getElem_cons_succ, List.setIfInBounds_toArray, List.set_cons_zero, List.set_cons_succ]
              refine wpAnyH_done (by kernel_rfl) ?_ _
              have hjne : ((j : Int) == (n : Int)) = false := by simp; omega
              go_upto_region 24 with fail
              refine wp_region_held_drew (S := Gr wr) (by kernel_rfl) ((Gr.refl _).drew.drew) (fun hHeld => ?_)
              refine wpAnyH_take (i := 0) (v := ?tv70) rfl (by kernel_rfl) (by kernel_rfl) (by kernel_rfl) (fun _ _ _ h => h) (Or.inl ⟨by rfl, ?ty70⟩) (by assumption) ?tr70
              case ty70 => (intro w hSw; (try dsimp only at hSw); go_simp; (try with_reducible rfl))
              try simp only [Act.put, List.getElem_toArray, List.getElem_cons_zero, List.setIfInBounds_toArray, List.set_cons_zero, List.set_cons_succ]
              refine wpAnyH_take (i := 1) (v := ?tv71) rfl (by kernel_rfl) (by kernel_rfl) (by kernel_rfl) (fun _ _ _ h => h) (Or.inl ⟨by rfl, ?ty71⟩) (by assumption) ?tr71
              case ty71 => (intro w hSw; (try dsimp only at hSw); go_simp; (try with_reducible rfl))
              try simp only [Act.put, List.getElem_toArray, List.getElem_cons_zero, List.getElem_cons_succ, List.setIfInBounds_toArray, List.set_cons_zero, List.set_cons_succ]
              refine wpAnyH_take (i := 2) (v := ?tv72) rfl (by kernel_rfl) (by kernel_rfl) (by kernel_rfl) (fun _ _ _ h => h) (Or.inl ⟨by rfl, ?ty72⟩) (by assumption) ?tr72
              case ty72 => (intro w hSw; (try dsimp only at hSw); go_simp; (try with_reducible rfl))
              try simp only [Act.put, List.getElem_toArray, List.getElem_cons_zero, List.getElem_cons_succ, List.setIfInBounds_toArray, List.set_cons_zero, List.set_cons_succ]
              refine wpAnyH_take (i := 3) (v := ?tv73) rfl (by kernel_rfl) (by kernel_rfl) (by kernel_rfl) (fun _ _ _ h => h) (Or.inl ⟨by rfl, ?ty73⟩) (by assumption) ?tr73
              case ty73 => (intro w hSw; (try dsimp only at hSw); go_simp; (try with_reducible rfl))
              try simp only [Act.put, List.getElem_toArray, List.getElem_cons_zero, List.getElem_cons_succ, List.setIfInBounds_toArray, List.set_cons_zero, List.set_cons_succ]
              refine wpAnyH_take (i := 4) (v := ?tv74) rfl (by kernel_rfl) (by kernel_rfl) (by kernel_rfl) (fun _ _ _ h => h) (Or.inl ⟨by rfl, ?ty74⟩) (by assumption) ?tr74
              case ty74 => (intro w hSw; (try dsimp only at hSw); go_simp; (try with_reducible rfl))
              try simp only [Act.put, List.getElem_toArray, List.getElem_cons_zero, List.getElem_cons_succ, List.setIfInBounds_toArray, List.set_cons_zero, List.set_cons_succ]
              refine wpAnyH_take (i := 5) (v := ?tv75) rfl (by kernel_rfl) (by kernel_rfl) (by kernel_rfl) (fun _ _ _ h => h) (Or.inl ⟨by rfl, ?ty75⟩) (by assumption) ?tr75
              case ty75 => (intro w hSw; (try dsimp only at hSw); go_simp; (try with_reducible rfl))
              try simp only [Act.put, List.getElem_toArray, List.getElem_cons_zero, List.getElem_cons_succ, List.setIfInBounds_toArray, List.set_cons_zero, List.set_cons_succ]
              refine wpAnyH_take (i := 6) (v := ?tv76) rfl (by kernel_rfl) (by kernel_rfl) (by kernel_rfl) (fun _ _ _ h => h) (Or.inl ⟨by rfl, ?ty76⟩) (by assumption) ?tr76
              case ty76 => (intro w hSw; (try dsimp only at hSw); go_simp; (try with_reducible rfl))
              try simp only [Act.put, List.getElem_toArray, List.getElem_cons_zero, List.getElem_cons_succ, List.setIfInBounds_toArray, List.set_cons_zero, List.set_cons_succ]
              refine wpAnyH_take (i := 7) (v := ?tv77) rfl (by kernel_rfl) (by kernel_rfl) (by kernel_rfl) (fun _ _ _ h => h) (Or.inl ⟨by rfl, ?ty77⟩) (by assumption) ?tr77
              case ty77 => (intro w hSw; (try dsimp only at hSw); go_simp; (try with_reducible rfl))
              try simp only [Act.put, List.getElem_toArray, List.getElem_cons_zero, List.getElem_cons_succ, List.setIfInBounds_toArray, List.set_cons_zero, List.set_cons_succ]
              refine wpAnyH_ready (rs := [8]) (by kernel_rfl) (by simp) ?_
              refine AllReadyH.cons (i := 8) rfl (fun K2 hK2 => ?_) AllReadyH.nil
              refine step_app_hin (by rfl) (.tmp 160) (.tmp 164) (by rfl) (some ⟨g1, o1, none⟩) _ j _ _ (Lf.take j) (Lf.drop (j + 1)) (by rfl) (by rfl) ((HZ.out wr.drew.drew (by repeat (first | exact Gr.refl _ | (refine Gr.step ?_ (by assumption)) | (refine Gr.alloc ?_ _) | (refine Gr.drew ?_)))).head (by omega)) (HIn.rest (HZ.out wr.drew.drew (by repeat (first | exact Gr.refl _ | (refine Gr.step ?_ (by assumption)) | (refine Gr.alloc ?_ _) | (refine Gr.drew ?_)))) (by omega) (by omega) (by omega) (by omega) (fun q => if_neg (by omega))) (by omega) (by omega) (fun A9 c9 w10 h10 b10 => ?_)
              have H10 := Lib.hid h10
              clear h10
              refine hK2.out _ _ (show Gr wr _ from (by repeat (first | exact Gr.refl _ | (refine Gr.step ?_ (by assumption)) | (refine Gr.alloc ?_ _) | (refine Gr.drew ?_)))) (fun hHeld2 => ?_)
              clear hK2 K2
              try simp only [Act.put, List.getElem_toArray, List.getElem_cons_zero, List.getElem_cons_succ, List.setIfInBounds_toArray, List.set_cons_zero, List.set_cons_succ]
              refine wpAnyH_take (i := 9) (v := ?tv78) rfl (by kernel_rfl) (by kernel_rfl) (by kernel_rfl) (fun _ _ _ h => h) (Or.inl ⟨by rfl, ?ty78⟩) (by assumption) ?tr78
              case ty78 => (intro w hSw; (try dsimp only at hSw); go_simp; (try with_reducible rfl))
              try simp only [Act.put, List.getElem_toArray, List.getElem_cons_zero, List.getElem_cons_succ, List.setIfInBounds_toArray, List.set_cons_zero, List.set_cons_succ]
              refine wpAnyH_done (by kernel_rfl) ?_ _
              go_wp2
              go_roundw
              case rel => exact ⟨i + 1, n - 1, A9, c9, Lf.eraseIdx j, by omega, by omega, by first | rfl | (congr 1; omega), by go_num, Lib.hid (by rw [List.eraseIdx_eq_take_drop_succ]; have := H10.out; rwa [show j + (n - (j + 1)) = n - 1 by omega] at this), Lib.hid (erase_perm HP0.out HDR.out (by rw [← HE2.out]; exact HPJ.out)), Lib.hid (show Gr w9 _ from (by repeat (first | exact Gr.refl _ | (refine Gr.step ?_ (by assumption)) | (refine Gr.alloc ?_ _) | (refine Gr.drew ?_))))⟩
              case measure => simp [intOf]; omega
            · have hb : (p == q) = false := by simp [hpq]
              rw [hb] at hq
              have HE2 := Lib.hid hpq
              clear hb hpq
              go_upto_region 20 with fail
              refine wp_region_held_drew (S := Gr wr) (by kernel_rfl) ((Gr.refl _).drew) (fun hHeld => ?_)
              refine wpAnyH_take (i := 0) (v := ?tv55) rfl (by kernel_rfl) (by kernel_rfl) (by kernel_rfl) (fun _ _ _ h => h) (Or.inl ⟨by rfl, ?ty55⟩) (by assumption) ?tr55
              case ty55 => (intro w hSw; (try dsimp only at hSw); go_simp; (try with_reducible rfl))
              try simp only [Act.put, List.getElem_toArray, List.getElem_cons_zero, List.setIfInBounds_toArray, List.set_cons_zero, List.set_cons_succ]
              refine wpAnyH_take (i := 1) (v := ?tv56) rfl (by kernel_rfl) (by kernel_rfl) (by kernel_rfl) (fun _ _ _ h => h) (Or.inl ⟨by rfl, ?ty56⟩) (by assumption) ?tr56
              case ty56 => (intro w hSw; (try dsimp only at hSw); go_simp; (try with_reducible rfl))
              try simp only [Act.put, List.getElem_toArray, List.getElem_cons_zero, List.getElem_cons_succ, List.setIfInBounds_toArray, List.set_cons_zero, List.set_cons_succ]
              refine wpAnyH_take (i := 2) (v := ?tv57) rfl (by kernel_rfl) (by kernel_rfl) (by kernel_rfl) (fun _ _ _ h => h) (Or.inl ⟨by rfl, ?ty57⟩) (by assumption) ?tr57
              case ty57 => (intro w hSw; (try dsimp only at hSw); go_simp; (try with_reducible rfl))
              try simp only [Act.put, List.getElem_toArray, List.getElem_cons_zero, List.getElem_cons_succ, List.setIfInBounds_toArray, List.set_cons_zero, List.set_cons_succ]
              refine wpAnyH_take (i := 3) (v := ?tv58) rfl (by kernel_rfl) (by kernel_rfl) (by kernel_rfl) (fun _ _ _ h => h) (Or.inl ⟨by rfl, ?ty58⟩) (by assumption) ?tr58
              case ty58 => (intro w hSw; (try dsimp only at hSw); go_simp; (try with_reducible rfl))
              try simp only [Act.put, List.getElem_toArray, List.getElem_cons_zero, List.getElem_cons_succ, List.setIfInBounds_toArray, List.set_cons_zero, List.set_cons_succ]
              refine wpAnyH_take (i := 4) (v := ?tv59) rfl (by kernel_rfl) (by kernel_rfl) (by kernel_rfl) (fun _ _ _ h => h) (Or.inl ⟨by rfl, ?ty59⟩) (by assumption) ?tr59
              case ty59 => (intro w hSw; (try dsimp only at hSw); go_simp; (try with_reducible rfl))
              try simp only [Act.put, List.getElem_toArray, List.getElem_cons_zero, List.getElem_cons_succ, List.setIfInBounds_toArray, List.set_cons_zero, List.set_cons_succ]
              refine wpAnyH_take (i := 5) (v := ?tv60) rfl (by kernel_rfl) (by kernel_rfl) (by kernel_rfl) (fun _ _ _ h => h) (Or.inl ⟨by rfl, ?ty60⟩) (by assumption) ?tr60
              case ty60 => (intro w hSw; (try dsimp only at hSw); go_simp; (try with_reducible rfl))
              try simp only [Act.put, List.getElem_toArray, List.getElem_cons_zero, List.getElem_cons_succ, List.setIfInBounds_toArray, List.set_cons_zero, List.set_cons_succ]
              refine wpAnyH_take (i := 6) (v := ?tv61) rfl (by kernel_rfl) (by kernel_rfl) (by kernel_rfl) (fun _ _ _ h => h) (Or.inl ⟨by rfl, ?ty61⟩) (by assumption) ?tr61
              case ty61 => (intro w hSw; (try dsimp only at hSw); go_simp; (try with_reducible rfl))
              try simp only [Act.put, List.getElem_toArray, List.getElem_cons_zero, List.getElem_cons_succ, List.setIfInBounds_toArray, List.set_cons_zero, List.set_cons_succ]
              refine wpAnyH_take (i := 7) (v := ?tv62) rfl (by kernel_rfl) (by kernel_rfl) (by kernel_rfl) (fun _ _ _ h => h) (Or.inl ⟨by rfl, ?ty62⟩) (by assumption) ?tr62
              case ty62 => (intro w hSw; (try dsimp only at hSw); go_simp; (try with_reducible rfl))
              try simp only [Act.put, List.getElem_toArray, List.getElem_cons_zero, List.getElem_cons_succ, List.setIfInBounds_toArray, List.set_cons_zero, List.set_cons_succ]
              refine wpAnyH_take (i := 8) (v := _) rfl (by kernel_rfl) (by kernel_rfl) (by kernel_rfl) (fun _ _ _ h => h) (yieldsIf_load_mid (by rfl) 29 _ (by rfl) g1 (o1 + j * 32) (by first | rfl | simp) px _ (fun w h => K1.out w h) Tryd.underlying29 (by rfl) HI1.out) (by assumption) ?_
              try simp only [Act.put, List.getElem_toArray, List.getElem_cons_zero, List.getElem_cons_succ, List.setIfInBounds_toArray, List.set_cons_zero, List.set_cons_succ]
              refine wpAnyH_take (i := 9) (v := ?tv64) rfl (by kernel_rfl) (by kernel_rfl) (by kernel_rfl) (fun _ _ _ h => h) (Or.inl ⟨by rfl, ?ty64⟩) (by assumption) ?tr64
              case ty64 => (intro w hSw; (try dsimp only at hSw); go_simp; (try with_reducible rfl))
              try simp only [Act.put, List.getElem_toArray, List.getElem_cons_zero, List.getElem_cons_succ, List.setIfInBounds_toArray, List.set_cons_zero, List.set_cons_succ]
              refine wpAnyH_take (i := 10) (v := ?tv65) rfl (by kernel_rfl) (by kernel_rfl) (by kernel_rfl) (fun _ _ _ h => h) (Or.inl ⟨by rfl, ?ty65⟩) (by assumption) ?tr65
              case ty65 => (intro w hSw; (try dsimp only at hSw); go_simp; (try with_reducible rfl))
              try simp only [Act.put, List.getElem_toArray, List.getElem_cons_zero, List.getElem_cons_succ, List.setIfInBounds_toArray, List.set_cons_zero, List.set_cons_succ]
              refine wpAnyH_take (i := 11) (v := ?tv66) rfl (by kernel_rfl) (by kernel_rfl) (by kernel_rfl) (fun _ _ _ h => h) (Or.inl ⟨by rfl, ?ty66⟩) (by assumption) ?tr66
              case ty66 => (intro w hSw; (try dsimp only at hSw); go_simp; (try with_reducible rfl))
              try simp only [Act.put, List.getElem_toArray, List.getElem_cons_zero, List.getElem_cons_succ, List.setIfInBounds_toArray, List.set_cons_zero, List.set_cons_succ]
              refine wpAnyH_take (i := 12) (v := _) rfl (by kernel_rfl) (by kernel_rfl) (by kernel_rfl) (fun _ _ _ h => h) (yieldsIf_load_mid (by rfl) 29 _ (by rfl) g2 (o2 + i * 32) (by first | rfl | simp) py _ (fun w h => K2y.out w h) Tryd.underlying29 (by rfl) HI2.out) (by assumption) ?_
              try simp only [Act.put, List.getElem_toArray, List.getElem_cons_zero, List.getElem_cons_succ, List.setIfInBounds_toArray, List.set_cons_zero, List.set_cons_succ]
              refine wpAnyH_take (i := 13) (v := ?tv68) rfl (by kernel_rfl) (by kernel_rfl) (by kernel_rfl) (fun _ _ _ h => h) (Or.inl ⟨by rfl, ?ty68⟩) (by assumption) ?tr68
              case ty68 => (intro w hSw; (try dsimp only at hSw); go_simp; (try with_reducible rfl))
              try simp only [Act.put, List.getElem_toArray, List.getElem_cons_zero, List.getElem_cons_succ, List.setIfInBounds_toArray, List.set_cons_zero, List.set_cons_succ]
              refine wpAnyH_take (i := 14) (v := ?tv69) rfl (by kernel_rfl) (by kernel_rfl) (by kernel_rfl) (fun _ _ _ h => h) (Or.inl ⟨by rfl, ?ty69⟩) (by assumption) ?tr69
              case ty69 => (intro w hSw; (try dsimp only at hSw); go_simp; (try with_reducible rfl))
              try simp only [Act.put, List.getElem_toArray, List.getElem_cons_zero, List.getElem_cons_succ, List.setIfInBounds_toArray, List.set_cons_zero, List.set_cons_succ]
              refine wpAnyH_done (by kernel_rfl) ?_ _
              go_wp2
              go_roundw
              case rel => exact ⟨j + 1, by omega, by go_num, Lib.hid (fun t ht => by
                by_cases e : t = j
                · subst e; rw [HPJ.out]; intro h; cases h; exact HE2.out rfl
                · exact HNO.out t (by omega)), Lib.hid (show Gr wo _ from (by repeat (first | exact Gr.refl _ | (refine Gr.step ?_ (by assumption)) | (refine Gr.alloc ?_ _) | (refine Gr.drew ?_))))⟩
              case measure => simp [intOf]; omega
          · exfalso
            obtain ⟨t, ht, e⟩ := HMEM.out
            exact HNO.out t (by omega) e
      · obtain rfl : i = pn := by omega
        have hn0 : n = 0 := by
          have := HP0.out.length_eq
          rw [List.length_drop, HPN.out, HZ0.out.2.1] at this; omega
        subst hn0
        go_wp2
        go_ret
        exact ⟨rfl, show Gr w _ from (by repeat (first | exact Gr.refl _ | (refine Gr.step ?_ (by assumption)) | (refine Gr.alloc ?_ _) | (refine Gr.drew ?_)))⟩
  
  refine AllReadyH.cons (i := 16) rfl (fun K2 hK2 => ?_) ?more79
  · skip
    go_simp
    obtain ⟨wa4, hwa4⟩ : ∃ x, (w5.alloc (.cells (List.replicate 32 (Value.int .u8 0)).toArray 29)).drew = x := ⟨_, rfl⟩
    have bwa4 : Below w5.heap.size w5 wa4 := by rw [← hwa4]; exact ((Below.refl _ w5).alloc (Nat.le_refl _) _).drew
    have Ra : Hid (wa4.heap[w5.heap.size]? = some (.cells (List.replicate 32 (Value.int .u8 0)).toArray 29 (0, 0))) := Lib.hid (by rw [← hwa4]; exact heap_at w5 _ _ rfl)
    have hsa : w5.heap.size < wa4.heap.size := by rw [← hwa4]; simp
    simp only [List.replicate] at hwa4
    rw [hwa4]
    clear hwa4
    refine hK2.out _ _ (show Gr w5 _ from (by repeat (first | exact Gr.refl _ | (refine Gr.step ?_ (by assumption)) | (refine Gr.alloc ?_ _) | (refine Gr.drew ?_)))) (fun hHeld2 => ?_)
    clear hK2 K2
    try simp only [Act.put, List.getElem_toArray, List.getElem_cons_zero, List.getElem_cons_succ, List.setIfInBounds_toArray, List.set_cons_zero, List.set_cons_succ]
    refine wpAnyH_ready (rs := [12]) (by kernel_rfl) (by simp) ?_
    refine AllReadyH.cons (i := 12) rfl (fun K2 hK2 => ?_) AllReadyH.nil
    go_simp
    go_at_call 47
    refine (HVR.out wa4 (show Env B a wa4 from HE.out.step (show Gr w wa4 from (by repeat (first | exact Gr.refl _ | (refine Gr.step ?_ (by assumption)) | (refine Gr.alloc ?_ _) | (refine Gr.drew ?_))))) (YP.out.below (show Gr w5 wa4 from (by repeat (first | exact Gr.refl _ | (refine Gr.step ?_ (by assumption)) | (refine Gr.alloc ?_ _) | (refine Gr.drew ?_)))))).mono ?_
    rintro ev w104 ⟨rfl, b104⟩
    try go_wp2_with fail
    refine hK2.out _ _ (show Gr w5 _ from (by repeat (first | exact Gr.refl _ | (refine Gr.step ?_ (by assumption)) | (refine Gr.alloc ?_ _) | (refine Gr.drew ?_)))) (fun hHeld2 => ?_)
    clear hK2 K2
    try simp only [Act.put, List.getElem_toArray, List.getElem_cons_zero, List.getElem_cons_succ, List.setIfInBounds_toArray, List.set_cons_zero, List.set_cons_succ]
    refine wpAnyH_take (i := 13) (v := ?tv80) rfl (by kernel_rfl) (by kernel_rfl) (by kernel_rfl) (fun _ _ _ h => h) (Or.inl ⟨by rfl, ?ty80⟩) (by assumption) ?tr80
    case ty80 => (intro w hSw; (try dsimp only at hSw); go_simp; (try with_reducible rfl))
    try simp only [Act.put, List.getElem_toArray, List.getElem_cons_zero, List.getElem_cons_succ, List.setIfInBounds_toArray, List.set_cons_zero, List.set_cons_succ]
    refine wpAnyH_take (i := 14) (v := ?tv81) rfl (by kernel_rfl) (by kernel_rfl) (by kernel_rfl) (fun _ _ _ h => h) (Or.inl ⟨by rfl, ?ty81⟩) (by assumption) ?tr81
    case ty81 => (intro w hSw; (try dsimp only at hSw); go_simp; (try with_reducible rfl))
    try simp only [Act.put, List.getElem_toArray, List.getElem_cons_zero, List.getElem_cons_succ, List.setIfInBounds_toArray, List.set_cons_zero, List.set_cons_succ]
    refine wpAnyH_take (i := 15) (v := ?tv82) rfl (by kernel_rfl) (by kernel_rfl) (by kernel_rfl) (fun _ _ _ h => h) (Or.inl ⟨by rfl, ?ty82⟩) (by assumption) ?tr82
    case ty82 => (intro w hSw; (try dsimp only at hSw); go_simp; (try with_reducible rfl))
    try simp only [Act.put, List.getElem_toArray, List.getElem_cons_zero, List.getElem_cons_succ, List.setIfInBounds_toArray, List.set_cons_zero, List.set_cons_succ]
    refine wpAnyH_ready (rs := [17]) (by kernel_rfl) (by simp) ?_
    refine AllReadyH.cons (i := 17) rfl (fun K2 hK2 => ?_) AllReadyH.nil
    rw [if_pos (by rfl)]
    refine wp_store_row 29 _ _ rfl w5.heap.size vr rfl rfl 29 _ (((b104.block _ hsa).trans Ra.out)) Ivr.out (by rw [Zvr.out]; simp) Ovr.out ?_
    refine hK2.out _ _ (show Gr w5 _ from below_setRow (show Gr w5 w104 from (by repeat (first | exact Gr.refl _ | (refine Gr.step ?_ (by assumption)) | (refine Gr.alloc ?_ _) | (refine Gr.drew ?_)))) _ _ (by have := (show Gr w5 w5 from (by repeat (first | exact Gr.refl _ | (refine Gr.step ?_ (by assumption)) | (refine Gr.alloc ?_ _) | (refine Gr.drew ?_)))).size; omega)) (fun hHeld2 => ?_)
    clear hK2 K2
    try simp only [Act.put, List.getElem_toArray, List.getElem_cons_zero, List.getElem_cons_succ]
    refine wpAnyH_take (i := 18) (v := ?tv83) rfl (by kernel_rfl) (by kernel_rfl) (by kernel_rfl) (fun _ _ _ h => h) (Or.inl ⟨by rfl, ?ty83⟩) (by assumption) ?tr83
    case ty83 => (intro w hSw; (try dsimp only at hSw); go_simp; (try with_reducible rfl))
    try simp only [Act.put, List.getElem_toArray, List.getElem_cons_zero, List.getElem_cons_succ, List.setIfInBounds_toArray, List.set_cons_zero, List.set_cons_succ]
    refine wpAnyH_done (by kernel_rfl) ?_ _
    have bF : Below w5.heap.size w5 (w104.setRow w5.heap.size vr) := below_setRow (show Gr w5 w104 from (by repeat (first | exact Gr.refl _ | (refine Gr.step ?_ (by assumption)) | (refine Gr.alloc ?_ _) | (refine Gr.drew ?_)))) _ _ (by have := (show Gr w5 w5 from (by repeat (first | exact Gr.refl _ | (refine Gr.step ?_ (by assumption)) | (refine Gr.alloc ?_ _) | (refine Gr.drew ?_)))).size; omega)
    have RF : Hid ((w104.setRow w5.heap.size vr).heap[w5.heap.size]? = some (.cells vr 29 (0, 0))) := Lib.hid (setRow_heap _ _ _ _ _ _ (((b104.block _ hsa).trans Ra.out)))
    have hrF : w5.heap.size ≤ w5.heap.size := (show Gr w5 w5 from (by repeat (first | exact Gr.refl _ | (refine Gr.step ?_ (by assumption)) | (refine Gr.alloc ?_ _) | (refine Gr.drew ?_)))).size
    obtain ⟨wF, hwF⟩ : ∃ x, w104.setRow w5.heap.size vr = x := ⟨_, rfl⟩
    rw [hwF] at bF RF ⊢
    obtain ⟨rF, hrF'⟩ : ∃ x, w5.heap.size = x := ⟨_, rfl⟩
    rw [hrF'] at RF ⊢
    clear hwF hrF'
    have KF : Hid (∀ w', Gr wF w' → w'.heap[rF]? = some (.cells vr 29 (0, 0))) := Lib.hid (fun w' h => (h.block _ (Array.getElem?_eq_some_iff.1 RF.out).1).trans RF.out)
    have d0wF := cell_below (show Gr wb wF from (by repeat (first | exact Gr.refl _ | (refine Gr.step ?_ (by assumption)) | (refine Gr.alloc ?_ _) | (refine Gr.drew ?_)))) c0 hwb; have d1wF := cell_below (show Gr wb wF from (by repeat (first | exact Gr.refl _ | (refine Gr.step ?_ (by assumption)) | (refine Gr.alloc ?_ _) | (refine Gr.drew ?_)))) c1 hwb; have d2wF := cell_below (show Gr wb wF from (by repeat (first | exact Gr.refl _ | (refine Gr.step ?_ (by assumption)) | (refine Gr.alloc ?_ _) | (refine Gr.drew ?_)))) c2 hwb
    go_wp2_with (first | (refine wpList_load_row_g rfl 29 _ rfl rF rfl 29 vr (0, 0) _ RF.out Tryd.underlying29 rfl Ivr.out ?_) | (refine wpList_load_row_g rfl 29 _ rfl w3.heap.size rfl 29 vr (0, 0) _ (KR.out wF (show Gr w4 wF from (by repeat (first | exact Gr.refl _ | (refine Gr.step ?_ (by assumption)) | (refine Gr.alloc ?_ _) | (refine Gr.drew ?_))))) Tryd.underlying29 rfl Ivr.out ?_))
    refine (HVF.out wF (show Env B a wF from HE.out.step (show Gr w wF from (by repeat (first | exact Gr.refl _ | (refine Gr.step ?_ (by assumption)) | (refine Gr.alloc ?_ _) | (refine Gr.drew ?_))))) (H1.out.below (show Gr w wF from (by repeat (first | exact Gr.refl _ | (refine Gr.step ?_ (by assumption)) | (refine Gr.alloc ?_ _) | (refine Gr.drew ?_))))) (H2.out.below (show Gr w wF from (by repeat (first | exact Gr.refl _ | (refine Gr.step ?_ (by assumption)) | (refine Gr.alloc ?_ _) | (refine Gr.drew ?_)))))).mono ?_
    rintro ev w8 ⟨rfl, b8⟩
    have d0w8 := cell_below (show Gr wb w8 from (by repeat (first | exact Gr.refl _ | (refine Gr.step ?_ (by assumption)) | (refine Gr.alloc ?_ _) | (refine Gr.drew ?_)))) c0 hwb; have d1w8 := cell_below (show Gr wb w8 from (by repeat (first | exact Gr.refl _ | (refine Gr.step ?_ (by assumption)) | (refine Gr.alloc ?_ _) | (refine Gr.drew ?_)))) c1 hwb; have d2w8 := cell_below (show Gr wb w8 from (by repeat (first | exact Gr.refl _ | (refine Gr.step ?_ (by assumption)) | (refine Gr.alloc ?_ _) | (refine Gr.drew ?_)))) c2 hwb
    go_wp2_with (refine wpList_app_hin rfl (.tmp 126) (.tmp 128) rfl none A2 0 P.length k2 [] P rfl rfl ⟨(fun _ h => by cases h), rfl, Nat.le_refl _, by omega, .inl rfl⟩ (H2.out.below (show Gr w w8 from (by repeat (first | exact Gr.refl _ | (refine Gr.step ?_ (by assumption)) | (refine Gr.alloc ?_ _) | (refine Gr.drew ?_))))) (by omega) (by have := HG.out; omega) ?_; intro AL cL w9 hL9 b9; have HL9 := Lib.hid hL9; clear hL9)
    go_loopw [13, 14, 15] (fun lv iv kv wr => ∃ (i n : Nat) (A : Option Addr) (c : Nat) (Lf : List (List UInt8)), i ≤ pn ∧ n ≤ 64 ∧ lv = .slice A n c ∧ iv = .int .i64 i ∧ Hid (HIn wr A n c Lf) ∧ Hid (Lf.Perm (pth.drop i)) ∧ Hid (Gr w9 wr)) (fun _ iv _ _ => pn - (intOf iv).toNat)
    case atStart => exact ⟨0, P.length, AL, cL, P, Nat.zero_le _, by have := HPM.out.length_eq; have := HPN.out; omega, by simp, rfl, Lib.hid (by simpa using HL9.out), Lib.hid (by simpa using HPM.out), Lib.hid (Gr.refl _)⟩
    case round =>
      obtain ⟨i, n, A, c, Lf, hi, hn64, rfl, rfl, HZ0, HP0, HG9⟩ := hrel
      obtain ⟨wo, rfl⟩ : ∃ x, x = wr := ⟨_, rfl⟩
      have g9 : Below w9.heap.size w9 wo := HG9.out
      by_cases hlt : i < pn
      · have i0 : (0 : Int) ≤ i := by omega
        have i1 : (i : Int) < pn := by omega
        obtain ⟨q, hq0⟩ : ∃ q, pth[i]? = some q := ⟨_, List.getElem?_eq_getElem (by have := HPN.out; omega)⟩
        have HDR : Hid (pth.drop i = q :: pth.drop (i + 1)) := Lib.hid (by
          have hkl : i < pth.length := by have := HPN.out; omega
          rw [List.drop_eq_getElem_cons hkl]; congr 1
          rw [List.getElem?_eq_getElem hkl] at hq0; exact Option.some.inj hq0)
        obtain ⟨g2, o2, rfl, gl2, r2, q32⟩ := (YP.out.below (show Gr w5 wo from (by repeat (first | exact Gr.refl _ | (refine Gr.step ?_ (by assumption)) | (refine Gr.alloc ?_ _) | (refine Gr.drew ?_))))).row hq0
        obtain ⟨py, hpy⟩ : ∃ py, bytesV q = py := ⟨_, rfl⟩
        have HI2 := Lib.hid (show (Tryd.prog.info? 29).map (·.size) = some py.length by rw [← hpy, bytesV_length, q32]; kernel_rfl)
        have HQ32 := Lib.hid (And.intro q32 hpy)
        rw [hpy] at r2
        have KY : Hid (∀ w', Gr wo w' → w'.rangeAt g2 (o2 + i * 32) py) := Lib.hid (fun w' h => rangeAt_below h r2 gl2)
        have HMEM : Hid (∃ t, t < n ∧ Lf[t]? = some q) := Lib.hid (by
          have hm : q ∈ Lf := HP0.out.symm.subset (by rw [HDR.out]; exact List.mem_cons_self ..)
          obtain ⟨t, ht⟩ := List.mem_iff_getElem?.1 hm
          exact ⟨t, by have := (List.getElem?_eq_some_iff.1 ht).1; have := HZ0.out.2.1; omega, ht⟩)
        clear hq0 r2 gl2 q32 hpy
        go_wp2_with fail
        go_loopw [15] (fun kv wr => ∃ j : Nat, j ≤ n ∧ kv = .int .i64 j ∧ Hid (∀ t, t < j → Lf[t]? ≠ some q) ∧ Hid (Gr wo wr)) (fun kv _ => n - (intOf kv).toNat)
        case atStart => exact ⟨0, Nat.zero_le _, rfl, Lib.hid (fun t h => by omega), Lib.hid (Gr.refl _)⟩
        case round =>
          obtain ⟨j, hj, rfl, HNO, HGZ⟩ := hrel
          have gz : Below wo.heap.size wo wr := HGZ.out
          by_cases hjn : j < n
          · have j0 : (0 : Int) ≤ j := by omega
            have j1 : (j : Int) < n := by omega
            obtain ⟨p, hp0⟩ : ∃ p, Lf[j]? = some p := ⟨_, List.getElem?_eq_getElem (by have := HZ0.out.2.1; omega)⟩
            obtain ⟨g1, o1, rfl, gl1, r1, p32⟩ := (HZ0.out.below gz).row hp0
            obtain ⟨px, hpx⟩ : ∃ px, bytesV p = px := ⟨_, rfl⟩
            have HI1 := Lib.hid (show (Tryd.prog.info? 29).map (·.size) = some px.length by rw [← hpx, bytesV_length, p32]; kernel_rfl)
            rw [hpx] at r1
            have K1 : Hid (∀ w', Gr wr w' → w'.rangeAt g1 (o1 + j * 32) px) := Lib.hid (fun w' h => rangeAt_below h r1 gl1)
            have K2y : Hid (∀ w', Gr wr w' → w'.rangeAt g2 (o2 + i * 32) py) := Lib.hid (fun w' h => KY.out w' (Gr.step HGZ.out h))
            have HZ : Hid (∀ w', Gr wr w' → HIn w' (some ⟨g1, o1, none⟩) n c Lf) := Lib.hid (fun w' h => HZ0.out.below (Gr.step HGZ.out h))
            have hjc : j ≤ c := by have := HZ0.out.2.2.1; omega
            have hjc1 : j + 1 ≤ c := by have := HZ0.out.2.2.1; omega
            have hjn1 : j + 1 ≤ n := by omega
            have hj1i : (j : Int) + 1 ≤ n := by omega
            have hj1p : (0 : Int) ≤ (j : Int) + 1 := by omega
            have hwj : IntKind.i64.wrap ((j : Int) + 1) = (j : Int) + 1 := IntWalk.i64_in _ (by omega)
            have hcn : n ≤ c ∧ c ≤ 9223372036854775807 := ⟨HZ0.out.2.2.1, HZ0.out.2.2.2.1⟩
            have hq : ∀ w, (Op.equalIn 10000 29 (.agg px.toArray) (.agg py.toArray)).run Tryd.prog w = .ok (p == q) w := fun w => eq_hash p q p32 HQ32.out.1 _ _ (by rw [hv, hpx]) (by rw [hv, HQ32.out.2]) w
            have HPJ := Lib.hid hp0
            clear hp0 r1 gl1 p32 hpx
            by_cases hpq : p = q
            · have hb : (p == q) = true := by simp [hpq]
              rw [hb] at hq
              have HE2 := Lib.hid hpq
              clear hb hpq
              go_upto_region 20 with fail
              refine wp_region_held_drew (S := Gr wr) (by kernel_rfl) ((Gr.refl _).drew) (fun hHeld => ?_)
              refine wpAnyH_take (i := 0) (v := ?tv84) rfl (by kernel_rfl) (by kernel_rfl) (by kernel_rfl) (fun _ _ _ h => h) (Or.inl ⟨by rfl, ?ty84⟩) (by assumption) ?tr84
              case ty84 => (intro w hSw; (try dsimp only at hSw); go_simp; (try with_reducible rfl))
              try simp only [Act.put, List.getElem_toArray, List.getElem_cons_zero, List.setIfInBounds_toArray, List.set_cons_zero, List.set_cons_succ]
              refine wpAnyH_take (i := 1) (v := ?tv85) rfl (by kernel_rfl) (by kernel_rfl) (by kernel_rfl) (fun _ _ _ h => h) (Or.inl ⟨by rfl, ?ty85⟩) (by assumption) ?tr85
              case ty85 => (intro w hSw; (try dsimp only at hSw); go_simp; (try with_reducible rfl))
              try simp only [Act.put, List.getElem_toArray, List.getElem_cons_zero, List.getElem_cons_succ, List.setIfInBounds_toArray, List.set_cons_zero, List.set_cons_succ]
              refine wpAnyH_take (i := 2) (v := ?tv86) rfl (by kernel_rfl) (by kernel_rfl) (by kernel_rfl) (fun _ _ _ h => h) (Or.inl ⟨by rfl, ?ty86⟩) (by assumption) ?tr86
              case ty86 => (intro w hSw; (try dsimp only at hSw); go_simp; (try with_reducible rfl))
              try simp only [Act.put, List.getElem_toArray, List.getElem_cons_zero, List.getElem_cons_succ, List.setIfInBounds_toArray, List.set_cons_zero, List.set_cons_succ]
              refine wpAnyH_take (i := 3) (v := ?tv87) rfl (by kernel_rfl) (by kernel_rfl) (by kernel_rfl) (fun _ _ _ h => h) (Or.inl ⟨by rfl, ?ty87⟩) (by assumption) ?tr87
              case ty87 => (intro w hSw; (try dsimp only at hSw); go_simp; (try with_reducible rfl))
              try simp only [Act.put, List.getElem_toArray, List.getElem_cons_zero, List.getElem_cons_succ, List.setIfInBounds_toArray, List.set_cons_zero, List.set_cons_succ]
              refine wpAnyH_take (i := 4) (v := ?tv88) rfl (by kernel_rfl) (by kernel_rfl) (by kernel_rfl) (fun _ _ _ h => h) (Or.inl ⟨by rfl, ?ty88⟩) (by assumption) ?tr88
              case ty88 => (intro w hSw; (try dsimp only at hSw); go_simp; (try with_reducible rfl))
              try simp only [Act.put, List.getElem_toArray, List.getElem_cons_zero, List.getElem_cons_succ, List.setIfInBounds_toArray, List.set_cons_zero, List.set_cons_succ]
              refine wpAnyH_take (i := 5) (v := ?tv89) rfl (by kernel_rfl) (by kernel_rfl) (by kernel_rfl) (fun _ _ _ h => h) (Or.inl ⟨by rfl, ?ty89⟩) (by assumption) ?tr89
              case ty89 => (intro w hSw; (try dsimp only at hSw); go_simp; (try with_reducible rfl))
              try simp only [Act.put, List.getElem_toArray, List.getElem_cons_zero, List.getElem_cons_succ, List.setIfInBounds_toArray, List.set_cons_zero, List.set_cons_succ]
              refine wpAnyH_take (i := 6) (v := ?tv90) rfl (by kernel_rfl) (by kernel_rfl) (by kernel_rfl) (fun _ _ _ h => h) (Or.inl ⟨by rfl, ?ty90⟩) (by assumption) ?tr90
              case ty90 => (intro w hSw; (try dsimp only at hSw); go_simp; (try with_reducible rfl))
              try simp only [Act.put, List.getElem_toArray, List.getElem_cons_zero, List.getElem_cons_succ, List.setIfInBounds_toArray, List.set_cons_zero, List.set_cons_succ]
              refine wpAnyH_take (i := 7) (v := ?tv91) rfl (by kernel_rfl) (by kernel_rfl) (by kernel_rfl) (fun _ _ _ h => h) (Or.inl ⟨by rfl, ?ty91⟩) (by assumption) ?tr91
              case ty91 => (intro w hSw; (try dsimp only at hSw); go_simp; (try with_reducible rfl))
              try simp only [Act.put, List.getElem_toArray, List.getElem_cons_zero, List.getElem_cons_succ, List.setIfInBounds_toArray, List.set_cons_zero, List.set_cons_succ]
              refine wpAnyH_take (i := 8) (v := _) rfl (by kernel_rfl) (by kernel_rfl) (by kernel_rfl) (fun _ _ _ h => h) (yieldsIf_load_mid (by rfl) 29 _ (by rfl) g1 (o1 + j * 32) (by first | rfl | simp) px _ (fun w h => K1.out w h) Tryd.underlying29 (by rfl) HI1.out) (by assumption) ?_
              try simp only [Act.put, List.getElem_toArray, List.getElem_cons_zero, List.getElem_cons_succ, List.setIfInBounds_toArray, List.set_cons_zero, List.set_cons_succ]
              refine wpAnyH_take (i := 9) (v := ?tv93) rfl (by kernel_rfl) (by kernel_rfl) (by kernel_rfl) (fun _ _ _ h => h) (Or.inl ⟨by rfl, ?ty93⟩) (by assumption) ?tr93
              case ty93 => (intro w hSw; (try dsimp only at hSw); go_simp; (try with_reducible rfl))
              try simp only [Act.put, List.getElem_toArray, List.getElem_cons_zero, List.getElem_cons_succ, List.setIfInBounds_toArray, List.set_cons_zero, List.set_cons_succ]
              refine wpAnyH_take (i := 10) (v := ?tv94) rfl (by kernel_rfl) (by kernel_rfl) (by kernel_rfl) (fun _ _ _ h => h) (Or.inl ⟨by rfl, ?ty94⟩) (by assumption) ?tr94
              case ty94 => (intro w hSw; (try dsimp only at hSw); go_simp; (try with_reducible rfl))
              try simp only [Act.put, List.getElem_toArray, List.getElem_cons_zero, List.getElem_cons_succ, List.setIfInBounds_toArray, List.set_cons_zero, List.set_cons_succ]
              refine wpAnyH_take (i := 11) (v := ?tv95) rfl (by kernel_rfl) (by kernel_rfl) (by kernel_rfl) (fun _ _ _ h => h) (Or.inl ⟨by rfl, ?ty95⟩) (by assumption) ?tr95
              case ty95 => (intro w hSw; (try dsimp only at hSw); go_simp; (try with_reducible rfl))
              try simp only [Act.put, List.getElem_toArray, List.getElem_cons_zero, List.getElem_cons_succ, List.setIfInBounds_toArray, List.set_cons_zero, List.set_cons_succ]
              refine wpAnyH_take (i := 12) (v := _) rfl (by kernel_rfl) (by kernel_rfl) (by kernel_rfl) (fun _ _ _ h => h) (yieldsIf_load_mid (by rfl) 29 _ (by rfl) g2 (o2 + i * 32) (by first | rfl | simp) py _ (fun w h => K2y.out w h) Tryd.underlying29 (by rfl) HI2.out) (by assumption) ?_
              try simp only [Act.put, List.getElem_toArray, List.getElem_cons_zero, List.getElem_cons_succ, List.setIfInBounds_toArray, List.set_cons_zero, List.set_cons_succ]
              refine wpAnyH_take (i := 13) (v := ?tv97) rfl (by kernel_rfl) (by kernel_rfl) (by kernel_rfl) (fun _ _ _ h => h) (Or.inl ⟨by rfl, ?ty97⟩) (by assumption) ?tr97
              case ty97 => (intro w hSw; (try dsimp only at hSw); go_simp; (try with_reducible rfl))
              try simp only [Act.put, List.getElem_toArray, List.getElem_cons_zero, List.getElem_cons_succ, List.setIfInBounds_toArray, List.set_cons_zero, List.set_cons_succ]
              refine wpAnyH_take (i := 14) (v := ?tv98) rfl (by kernel_rfl) (by kernel_rfl) (by kernel_rfl) (fun _ _ _ h => h) (Or.inl ⟨by rfl, ?ty98⟩) (by assumption) ?tr98
              case ty98 => (intro w hSw; (try dsimp only at hSw); go_simp; (try with_reducible rfl))
              try simp only [Act.put, List.getElem_toArray, List.getElem_cons_zero, List.getElem_cons_succ, List.setIfInBounds_toArray, List.set_cons_zero, List.set_cons_succ]
              refine wpAnyH_done (by kernel_rfl) ?_ _
              have hjne : ((j : Int) == (n : Int)) = false := by simp; omega
              go_upto_region 24 with fail
              refine wp_region_held_drew (S := Gr wr) (by kernel_rfl) ((Gr.refl _).drew.drew) (fun hHeld => ?_)
              refine wpAnyH_take (i := 0) (v := ?tv114) rfl (by kernel_rfl) (by kernel_rfl) (by kernel_rfl) (fun _ _ _ h => h) (Or.inl ⟨by rfl, ?ty114⟩) (by assumption) ?tr114
              case ty114 => (intro w hSw; (try dsimp only at hSw); go_simp; (try with_reducible rfl))
              try simp only [Act.put, List.getElem_toArray, List.getElem_cons_zero, List.setIfInBounds_toArray, List.set_cons_zero, List.set_cons_succ]
              refine wpAnyH_take (i := 1) (v := ?tv115) rfl (by kernel_rfl) (by kernel_rfl) (by kernel_rfl) (fun _ _ _ h => h) (Or.inl ⟨by rfl, ?ty115⟩) (by assumption) ?tr115
              case ty115 => (intro w hSw; (try dsimp only at hSw); go_simp; (try with_reducible rfl))
              try simp only [Act.put, List.getElem_toArray, List.getElem_cons_zero, List.getElem_cons_succ, List.setIfInBounds_toArray, List.set_cons_zero, List.set_cons_succ]
              refine wpAnyH_take (i := 2) (v := ?tv116) rfl (by kernel_rfl) (by kernel_rfl) (by kernel_rfl) (fun _ _ _ h => h) (Or.inl ⟨by rfl, ?ty116⟩) (by assumption) ?tr116
              case ty116 => (intro w hSw; (try dsimp only at hSw); go_simp; (try with_reducible rfl))
              try simp only [Act.put, List.getElem_toArray, List.getElem_cons_zero, List.getElem_cons_succ, List.setIfInBounds_toArray, List.set_cons_zero, List.set_cons_succ]
              refine wpAnyH_take (i := 3) (v := ?tv117) rfl (by kernel_rfl) (by kernel_rfl) (by kernel_rfl) (fun _ _ _ h => h) (Or.inl ⟨by rfl, ?ty117⟩) (by assumption) ?tr117
              case ty117 => (intro w hSw; (try dsimp only at hSw); go_simp; (try with_reducible rfl))
              try simp only [Act.put, List.getElem_toArray, List.getElem_cons_zero, List.getElem_cons_succ, List.setIfInBounds_toArray, List.set_cons_zero, List.set_cons_succ]
              refine wpAnyH_take (i := 4) (v := ?tv118) rfl (by kernel_rfl) (by kernel_rfl) (by kernel_rfl) (fun _ _ _ h => h) (Or.inl ⟨by rfl, ?ty118⟩) (by assumption) ?tr118
              case ty118 => (intro w hSw; (try dsimp only at hSw); go_simp; (try with_reducible rfl))
              try simp only [Act.put, List.getElem_toArray, List.getElem_cons_zero, List.getElem_cons_succ, List.setIfInBounds_toArray, List.set_cons_zero, List.set_cons_succ]
              refine wpAnyH_take (i := 5) (v := ?tv119) rfl (by kernel_rfl) (by kernel_rfl) (by kernel_rfl) (fun _ _ _ h => h) (Or.inl ⟨by rfl, ?ty119⟩) (by assumption) ?tr119
              case ty119 => (intro w hSw; (try dsimp only at hSw); go_simp; (try with_reducible rfl))
              try simp only [Act.put, List.getElem_toArray, List.getElem_cons_zero, List.getElem_cons_succ, List.setIfInBounds_toArray, List.set_cons_zero, List.set_cons_succ]
              refine wpAnyH_take (i := 6) (v := ?tv120) rfl (by kernel_rfl) (by kernel_rfl) (by kernel_rfl) (fun _ _ _ h => h) (Or.inl ⟨by rfl, ?ty120⟩) (by assumption) ?tr120
              case ty120 => (intro w hSw; (try dsimp only at hSw); go_simp; (try with_reducible rfl))
              try simp only [Act.put, List.getElem_toArray, List.getElem_cons_zero, List.getElem_cons_succ, List.setIfInBounds_toArray, List.set_cons_zero, List.set_cons_succ]
              refine wpAnyH_take (i := 7) (v := ?tv121) rfl (by kernel_rfl) (by kernel_rfl) (by kernel_rfl) (fun _ _ _ h => h) (Or.inl ⟨by rfl, ?ty121⟩) (by assumption) ?tr121
              case ty121 => (intro w hSw; (try dsimp only at hSw); go_simp; (try with_reducible rfl))
              try simp only [Act.put, List.getElem_toArray, List.getElem_cons_zero, List.getElem_cons_succ, List.setIfInBounds_toArray, List.set_cons_zero, List.set_cons_succ]
              refine wpAnyH_ready (rs := [8]) (by kernel_rfl) (by simp) ?_
              refine AllReadyH.cons (i := 8) rfl (fun K2 hK2 => ?_) AllReadyH.nil
              refine step_app_hin (by rfl) (.tmp 160) (.tmp 164) (by rfl) (some ⟨g1, o1, none⟩) _ j _ _ (Lf.take j) (Lf.drop (j + 1)) (by rfl) (by rfl) ((HZ.out wr.drew.drew (by repeat (first | exact Gr.refl _ | (refine Gr.step ?_ (by assumption)) | (refine Gr.alloc ?_ _) | (refine Gr.drew ?_)))).head (by omega)) (HIn.rest (HZ.out wr.drew.drew (by repeat (first | exact Gr.refl _ | (refine Gr.step ?_ (by assumption)) | (refine Gr.alloc ?_ _) | (refine Gr.drew ?_)))) (by omega) (by omega) (by omega) (by omega) (fun q => if_neg (by omega))) (by omega) (by omega) (fun A9 c9 w10 h10 b10 => ?_)
              have H10 := Lib.hid h10
              clear h10
              refine hK2.out _ _ (show Gr wr _ from (by repeat (first | exact Gr.refl _ | (refine Gr.step ?_ (by assumption)) | (refine Gr.alloc ?_ _) | (refine Gr.drew ?_)))) (fun hHeld2 => ?_)
              clear hK2 K2
              try simp only [Act.put, List.getElem_toArray, List.getElem_cons_zero, List.getElem_cons_succ, List.setIfInBounds_toArray, List.set_cons_zero, List.set_cons_succ]
              refine wpAnyH_take (i := 9) (v := ?tv122) rfl (by kernel_rfl) (by kernel_rfl) (by kernel_rfl) (fun _ _ _ h => h) (Or.inl ⟨by rfl, ?ty122⟩) (by assumption) ?tr122
              case ty122 => (intro w hSw; (try dsimp only at hSw); go_simp; (try with_reducible rfl))
              try simp only [Act.put, List.getElem_toArray, List.getElem_cons_zero, List.getElem_cons_succ, List.setIfInBounds_toArray, List.set_cons_zero, List.set_cons_succ]
              refine wpAnyH_done (by kernel_rfl) ?_ _
              go_wp2
              go_roundw
              case rel => exact ⟨i + 1, n - 1, A9, c9, Lf.eraseIdx j, by omega, by omega, by first | rfl | (congr 1; omega), by go_num, Lib.hid (by rw [List.eraseIdx_eq_take_drop_succ]; have := H10.out; rwa [show j + (n - (j + 1)) = n - 1 by omega] at this), Lib.hid (erase_perm HP0.out HDR.out (by rw [← HE2.out]; exact HPJ.out)), Lib.hid (show Gr w9 _ from (by repeat (first | exact Gr.refl _ | (refine Gr.step ?_ (by assumption)) | (refine Gr.alloc ?_ _) | (refine Gr.drew ?_))))⟩
              case measure => simp [intOf]; omega
            · have hb : (p == q) = false := by simp [hpq]
              rw [hb] at hq
              have HE2 := Lib.hid hpq
              clear hb hpq
              go_upto_region 20 with fail
              refine wp_region_held_drew (S := Gr wr) (by kernel_rfl) ((Gr.refl _).drew) (fun hHeld => ?_)
              refine wpAnyH_take (i := 0) (v := ?tv99) rfl (by kernel_rfl) (by kernel_rfl) (by kernel_rfl) (fun _ _ _ h => h) (Or.inl ⟨by rfl, ?ty99⟩) (by assumption) ?tr99
              case ty99 => (intro w hSw; (try dsimp only at hSw); go_simp; (try with_reducible rfl))
              try simp only [Act.put, List.getElem_toArray, List.getElem_cons_zero, List.setIfInBounds_toArray, List.set_cons_zero, List.set_cons_succ]
              refine wpAnyH_take (i := 1) (v := ?tv100) rfl (by kernel_rfl) (by kernel_rfl) (by kernel_rfl) (fun _ _ _ h => h) (Or.inl ⟨by rfl, ?ty100⟩) (by assumption) ?tr100
              case ty100 => (intro w hSw; (try dsimp only at hSw); go_simp; (try with_reducible rfl))
              try simp only [Act.put, List.getElem_toArray, List.getElem_cons_zero, List.getElem_cons_succ, List.setIfInBounds_toArray, List.set_cons_zero, List.set_cons_succ]
              refine wpAnyH_take (i := 2) (v := ?tv101) rfl (by kernel_rfl) (by kernel_rfl) (by kernel_rfl) (fun _ _ _ h => h) (Or.inl ⟨by rfl, ?ty101⟩) (by assumption) ?tr101
              case ty101 => (intro w hSw; (try dsimp only at hSw); go_simp; (try with_reducible rfl))
              try simp only [Act.put, List.getElem_toArray, List.getElem_cons_zero, List.getElem_cons_succ, List.setIfInBounds_toArray, List.set_cons_zero, List.set_cons_succ]
              refine wpAnyH_take (i := 3) (v := ?tv102) rfl (by kernel_rfl) (by kernel_rfl) (by kernel_rfl) (fun _ _ _ h => h) (Or.inl ⟨by rfl, ?ty102⟩) (by assumption) ?tr102
              case ty102 => (intro w hSw; (try dsimp only at hSw); go_simp; (try with_reducible rfl))
              try simp only [Act.put, List.getElem_toArray, List.getElem_cons_zero, List.getElem_cons_succ, List.setIfInBounds_toArray, List.set_cons_zero, List.set_cons_succ]
              refine wpAnyH_take (i := 4) (v := ?tv103) rfl (by kernel_rfl) (by kernel_rfl) (by kernel_rfl) (fun _ _ _ h => h) (Or.inl ⟨by rfl, ?ty103⟩) (by assumption) ?tr103
              case ty103 => (intro w hSw; (try dsimp only at hSw); go_simp; (try with_reducible rfl))
              try simp only [Act.put, List.getElem_toArray, List.getElem_cons_zero, List.getElem_cons_succ, List.setIfInBounds_toArray, List.set_cons_zero, List.set_cons_succ]
              refine wpAnyH_take (i := 5) (v := ?tv104) rfl (by kernel_rfl) (by kernel_rfl) (by kernel_rfl) (fun _ _ _ h => h) (Or.inl ⟨by rfl, ?ty104⟩) (by assumption) ?tr104
              case ty104 => (intro w hSw; (try dsimp only at hSw); go_simp; (try with_reducible rfl))
              try simp only [Act.put, List.getElem_toArray, List.getElem_cons_zero, List.getElem_cons_succ, List.setIfInBounds_toArray, List.set_cons_zero, List.set_cons_succ]
              refine wpAnyH_take (i := 6) (v := ?tv105) rfl (by kernel_rfl) (by kernel_rfl) (by kernel_rfl) (fun _ _ _ h => h) (Or.inl ⟨by rfl, ?ty105⟩) (by assumption) ?tr105
              case ty105 => (intro w hSw; (try dsimp only at hSw); go_simp; (try with_reducible rfl))
              try simp only [Act.put, List.getElem_toArray, List.getElem_cons_zero, List.getElem_cons_succ, List.setIfInBounds_toArray, List.set_cons_zero, List.set_cons_succ]
              refine wpAnyH_take (i := 7) (v := ?tv106) rfl (by kernel_rfl) (by kernel_rfl) (by kernel_rfl) (fun _ _ _ h => h) (Or.inl ⟨by rfl, ?ty106⟩) (by assumption) ?tr106
              case ty106 => (intro w hSw; (try dsimp only at hSw); go_simp; (try with_reducible rfl))
              try simp only [Act.put, List.getElem_toArray, List.getElem_cons_zero, List.getElem_cons_succ, List.setIfInBounds_toArray, List.set_cons_zero, List.set_cons_succ]
              refine wpAnyH_take (i := 8) (v := _) rfl (by kernel_rfl) (by kernel_rfl) (by kernel_rfl) (fun _ _ _ h => h) (yieldsIf_load_mid (by rfl) 29 _ (by rfl) g1 (o1 + j * 32) (by first | rfl | simp) px _ (fun w h => K1.out w h) Tryd.underlying29 (by rfl) HI1.out) (by assumption) ?_
              try simp only [Act.put, List.getElem_toArray, List.getElem_cons_zero, List.getElem_cons_succ, List.setIfInBounds_toArray, List.set_cons_zero, List.set_cons_succ]
              refine wpAnyH_take (i := 9) (v := ?tv108) rfl (by kernel_rfl) (by kernel_rfl) (by kernel_rfl) (fun _ _ _ h => h) (Or.inl ⟨by rfl, ?ty108⟩) (by assumption) ?tr108
              case ty108 => (intro w hSw; (try dsimp only at hSw); go_simp; (try with_reducible rfl))
              try simp only [Act.put, List.getElem_toArray, List.getElem_cons_zero, List.getElem_cons_succ, List.setIfInBounds_toArray, List.set_cons_zero, List.set_cons_succ]
              refine wpAnyH_take (i := 10) (v := ?tv109) rfl (by kernel_rfl) (by kernel_rfl) (by kernel_rfl) (fun _ _ _ h => h) (Or.inl ⟨by rfl, ?ty109⟩) (by assumption) ?tr109
              case ty109 => (intro w hSw; (try dsimp only at hSw); go_simp; (try with_reducible rfl))
              try simp only [Act.put, List.getElem_toArray, List.getElem_cons_zero, List.getElem_cons_succ, List.setIfInBounds_toArray, List.set_cons_zero, List.set_cons_succ]
              refine wpAnyH_take (i := 11) (v := ?tv110) rfl (by kernel_rfl) (by kernel_rfl) (by kernel_rfl) (fun _ _ _ h => h) (Or.inl ⟨by rfl, ?ty110⟩) (by assumption) ?tr110
              case ty110 => (intro w hSw; (try dsimp only at hSw); go_simp; (try with_reducible rfl))
              try simp only [Act.put, List.getElem_toArray, List.getElem_cons_zero, List.getElem_cons_succ, List.setIfInBounds_toArray, List.set_cons_zero, List.set_cons_succ]
              refine wpAnyH_take (i := 12) (v := _) rfl (by kernel_rfl) (by kernel_rfl) (by kernel_rfl) (fun _ _ _ h => h) (yieldsIf_load_mid (by rfl) 29 _ (by rfl) g2 (o2 + i * 32) (by first | rfl | simp) py _ (fun w h => K2y.out w h) Tryd.underlying29 (by rfl) HI2.out) (by assumption) ?_
              try simp only [Act.put, List.getElem_toArray, List.getElem_cons_zero, List.getElem_cons_succ, List.setIfInBounds_toArray, List.set_cons_zero, List.set_cons_succ]
              refine wpAnyH_take (i := 13) (v := ?tv112) rfl (by kernel_rfl) (by kernel_rfl) (by kernel_rfl) (fun _ _ _ h => h) (Or.inl ⟨by rfl, ?ty112⟩) (by assumption) ?tr112
              case ty112 => (intro w hSw; (try dsimp only at hSw); go_simp; (try with_reducible rfl))
              try simp only [Act.put, List.getElem_toArray, List.getElem_cons_zero, List.getElem_cons_succ, List.setIfInBounds_toArray, List.set_cons_zero, List.set_cons_succ]
              refine wpAnyH_take (i := 14) (v := ?tv113) rfl (by kernel_rfl) (by kernel_rfl) (by kernel_rfl) (fun _ _ _ h => h) (Or.inl ⟨by rfl, ?ty113⟩) (by assumption) ?tr113
              case ty113 => (intro w hSw; (try dsimp only at hSw); go_simp; (try with_reducible rfl))
              try simp only [Act.put, List.getElem_toArray, List.getElem_cons_zero, List.getElem_cons_succ, List.setIfInBounds_toArray, List.set_cons_zero, List.set_cons_succ]
              refine wpAnyH_done (by kernel_rfl) ?_ _
              go_wp2
              go_roundw
              case rel => exact ⟨j + 1, by omega, by go_num, Lib.hid (fun t ht => by
                by_cases e : t = j
                · subst e; rw [HPJ.out]; intro h; cases h; exact HE2.out rfl
                · exact HNO.out t (by omega)), Lib.hid (show Gr wo _ from (by repeat (first | exact Gr.refl _ | (refine Gr.step ?_ (by assumption)) | (refine Gr.alloc ?_ _) | (refine Gr.drew ?_))))⟩
              case measure => simp [intOf]; omega
          · exfalso
            obtain ⟨t, ht, e⟩ := HMEM.out
            exact HNO.out t (by omega) e
      · obtain rfl : i = pn := by omega
        have hn0 : n = 0 := by
          have := HP0.out.length_eq
          rw [List.length_drop, HPN.out, HZ0.out.2.1] at this; omega
        subst hn0
        go_wp2
        go_ret
        exact ⟨rfl, show Gr w _ from (by repeat (first | exact Gr.refl _ | (refine Gr.step ?_ (by assumption)) | (refine Gr.alloc ?_ _) | (refine Gr.drew ?_)))⟩
  
  exact AllReadyH.nil
end Go.Proofs.YtmfngcnmacjbfaaDoor
