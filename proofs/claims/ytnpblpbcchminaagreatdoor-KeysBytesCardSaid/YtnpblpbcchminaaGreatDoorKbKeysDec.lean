import Derived.Test.YtnpblpbcchminaaGreatDoorKbKeysRst
import Derived.Test.YtnpblpbcchminaaGreatDoorKbKeysEnc
/- keys.Decode of any bytes. Condition: the table reads as listed. -/
namespace Go.Proofs.YtnpblpbcchminaaGreatDoor
open Go.ChangeShapes Go.WideShapes Go.ChangeAt Go.RowKit
set_option linter.unusedVariables false
/-- what the bytes say: the number, the chains from o1 on, so many hashes more, from o3 on; the end -/
structure DecS where
  i : Nat
  o1 : Option Nat
  n : Nat
  o3 : Option Nat
  o4 : Option Nat
def decS (S : ByteArray) : DecS :=
  let a := varS S (some 0)
  let b := varS S (stS S a.2 67)
  ⟨a.1, a.2, b.1, b.2, stS S b.2 (min b.1 6)⟩
def DecS.ok (d : DecS) (S : ByteArray) : Prop := d.o4 = some S.size ∧ d.n ≤ 6 ∧ d.i < 64
/-- the answer where there is one: the chains fill a block of their own, the path is a list of its own -/
def DecOk (base : Nat) (w' : World) (S : ByteArray) (d : DecS) (ev : Ending) : Prop := ∃ (G : Nat) (cs : List Value) (v : Value), base ≤ G ∧ ev = .returned (.tuple #[.agg #[.int .i64 d.i, .slice (some ⟨G, 0, none⟩) 67 67, v], .nilIface]) ∧ FillC cs 67 (hsS S d.o1) 67 ∧ w'.heap[G]? = some (.cells cs.toArray 23 (0, 0)) ∧ w'.ownsRow base 23 32 v d.n (hashCells ((List.range d.n).map (hsS S d.o3))) ∧ v.ownBlock ≠ some G
set_option maxRecDepth 100000 in
set_option maxHeartbeats 8000000 in
theorem dec_any (a : Nat → Addr) (B : Nat) (S : ByteArray) (w : World) (hE : Env B a w) (hS : S.size ≤ 9223372036854775807) :
    Calls Tryz.prog 28 #[.string S] w fun ev w' => (((decS S).ok S ∧ DecOk w.heap.size w' S (decS S) ev) ∨ (¬ (decS S).ok S ∧ ev = .returned (.tuple #[.agg #[.int .i64 0, .slice none 0 0, .slice none 0 0], errV a 3]))) ∧ Below w.heap.size w w' := by
  obtain ⟨i0, hi, hz0, hz1, hz2⟩ := info_parts info_hash
  obtain ⟨wv, hwv⟩ : ∃ y9 : World, (w.alloc (.cells #[.int .i64 0, .slice none 0 0, .slice none 0 0] 26)) = y9 := ⟨_, rfl⟩
  have HBv : Hid (Below w.heap.size w wv) := Lib.hid (by rw [← hwv]; exact ((Below.refl _ _).alloc (by simp <;> omega) _))
  have HSV : Hid (wv.heap.size = w.heap.size + 1) := Lib.hid (by rw [← hwv]; simp)
  have RZ : Hid (wv.heap[w.heap.size]? = some (.cells #[.int .i64 0, .slice none 0 0, .slice none 0 0] 26 (0, 0))) := Lib.hid (by rw [← hwv]; exact heap_at _ _ _ (by simp <;> omega))
  have HWV := Lib.hid hwv
  have hsv := HSV.out
  have HE := Lib.hid hE
  have HG3 : Hid (4 < w.heap.size) := Lib.hid (block_of_cell hE.laid.e3)
  obtain ⟨zs, hzs9⟩ : ∃ y : Array Value, #[.int .i64 0, .slice none 0 0, .slice none 0 0] = y := ⟨_, rfl⟩
  have Zzs : Hid (zs.size = 3) := Lib.hid (by rw [← hzs9]; rfl)
  have Izs : Hid ((Tryz.prog.info? 26).map (·.size) = some zs.size) := Lib.hid (by rw [Zzs.out]; kernel_rfl)
  have Ozs : Hid (zs.all (·.oneCell') = true) := Lib.hid (by rw [← hzs9]; simp [Value.oneCell'])
  have HZS9 := Lib.hid hzs9.symm
  clear hzs9
  have HEB : Hid (B ≤ w.heap.size) := Lib.hid hE.laid.size
  obtain ⟨p, hp⟩ : ∃ p, wv.heap.size = p := ⟨_, rfl⟩
  have HP : Hid (wv.heap.size = p ∧ p = w.heap.size + 1 ∧ B ≤ p) := Lib.hid ⟨hp, by omega, by have := HEB.out; omega⟩
  have HN1 : Hid (Calls Tryz.prog 109 #[.string S] wv fun ev w' => ev = .returned (.pointer (some ⟨p, 0, none⟩)) ∧ RSt p w' S (some 0) ∧ Below p wv w') := Lib.hid (by rw [← hp]; exact rnew_any S wv hS)
  have HBW0 : Hid (∀ w', Below p wv w' → Below w.heap.size w w') := Lib.hid (fun w' hb => HBv.out.trans (hb.mono (by have := HP.out; omega)))
  have HVS := Lib.hid (fun (o : Option Nat) (w' : World) (hb : Below p wv w') (h : RSt p w' S o) => rvar_st a B p S o w' (HE.out.below ((HBW0.out w' hb).mono HEB.out)) HP.out.2.2 h)
  have HHS := Lib.hid (fun (o : Option Nat) (w' : World) (hb : Below p wv w') (h : RSt p w' S o) => rhash_st a B p S o w' (HE.out.below ((HBW0.out w' hb).mono HEB.out)) HP.out.2.2 h)
  have HES := Lib.hid (fun (o : Option Nat) (w' : World) (hb : Below p wv w') (h : RSt p w' S o) => rend_st a B p S o w' (HE.out.below ((HBW0.out w' hb).mono HEB.out)) h)
  have HRP := Lib.hid (fun (g : Nat) (w' : World) (hg : w'.heap[g]? = some (.cells #[.int .u8 0, .int .u8 0, .int .u8 0, .int .u8 0, .int .u8 0, .int .u8 0, .int .u8 0, .int .u8 0, .int .u8 0, .int .u8 0, .int .u8 0, .int .u8 0, .int .u8 0, .int .u8 0, .int .u8 0, .int .u8 0, .int .u8 0, .int .u8 0, .int .u8 0, .int .u8 0, .int .u8 0, .int .u8 0, .int .u8 0, .int .u8 0, .int .u8 0, .int .u8 0, .int .u8 0, .int .u8 0, .int .u8 0, .int .u8 0, .int .u8 0, .int .u8 0] 23 (0, 0))) => rep_ok g w' hg)
  obtain ⟨zv, hzv, Hzv, Zzv, Izv, Ozv⟩ := row_of zeroH zeroH_length
  have HZ0 : Hid (zv = #[.int .u8 0, .int .u8 0, .int .u8 0, .int .u8 0, .int .u8 0, .int .u8 0, .int .u8 0, .int .u8 0, .int .u8 0, .int .u8 0, .int .u8 0, .int .u8 0, .int .u8 0, .int .u8 0, .int .u8 0, .int .u8 0, .int .u8 0, .int .u8 0, .int .u8 0, .int .u8 0, .int .u8 0, .int .u8 0, .int .u8 0, .int .u8 0, .int .u8 0, .int .u8 0, .int .u8 0, .int .u8 0, .int .u8 0, .int .u8 0, .int .u8 0, .int .u8 0]) := Lib.hid (by rw [zeroH_v] at hzv; cases hzv; rfl)
  clear hwv hE hp hS hzv
  go_enter Tryz.func28, Tryz.ntmps28
  go_upto_region 1 with fail
  rw [HWV.out]
  go_wp2_with fail
  refine HN1.out.mono ?_
  rintro ev w1 ⟨rfl, hr1, b1⟩
  have HR1 := Lib.hid hr1
  have B1 := Lib.hid b1
  clear b1 hr1
  go_wp2_with fail
  refine (HVS.out (some 0) w1 B1.out HR1.out).mono ?_
  obtain ⟨d, hd⟩ : ∃ d, varS S (some 0) = d := ⟨_, rfl⟩
  have HD := Lib.hid hd
  rw [hd]
  rintro ev w2 ⟨rfl, hr2, b2⟩
  have HR2 := Lib.hid hr2
  have B2 : Hid (Below p wv w2) := Lib.hid (B1.out.trans (b2.to_below (by have := HR1.out.lt; omega) (fun k hk q => by omega)))
  clear b2 hr2 hd
  go_upto_region 3 with fail
  go_wp2_with (refine wpList_buildSlice_row rfl 24 23 _ #[.int .u8 0, .int .u8 0, .int .u8 0, .int .u8 0, .int .u8 0, .int .u8 0, .int .u8 0, .int .u8 0, .int .u8 0, .int .u8 0, .int .u8 0, .int .u8 0, .int .u8 0, .int .u8 0, .int .u8 0, .int .u8 0, .int .u8 0, .int .u8 0, .int .u8 0, .int .u8 0, .int .u8 0, .int .u8 0, .int .u8 0, .int .u8 0, .int .u8 0, .int .u8 0, .int .u8 0, .int .u8 0, .int .u8 0, .int .u8 0, .int .u8 0, .int .u8 0] _ 32 rfl rfl Tryz.underlying24 Tryz.sizeOf23 Tryz.zeroValue23 rfl (by rfl) (by omega) (by omega) ?_)
  obtain ⟨w3, hw3⟩ : ∃ x, w2.alloc (.cells #[.int .u8 0, .int .u8 0, .int .u8 0, .int .u8 0, .int .u8 0, .int .u8 0, .int .u8 0, .int .u8 0, .int .u8 0, .int .u8 0, .int .u8 0, .int .u8 0, .int .u8 0, .int .u8 0, .int .u8 0, .int .u8 0, .int .u8 0, .int .u8 0, .int .u8 0, .int .u8 0, .int .u8 0, .int .u8 0, .int .u8 0, .int .u8 0, .int .u8 0, .int .u8 0, .int .u8 0, .int .u8 0, .int .u8 0, .int .u8 0, .int .u8 0, .int .u8 0] 23) = x := ⟨_, rfl⟩
  have R3 : Hid (w3.heap[w2.heap.size]? = some (.cells #[.int .u8 0, .int .u8 0, .int .u8 0, .int .u8 0, .int .u8 0, .int .u8 0, .int .u8 0, .int .u8 0, .int .u8 0, .int .u8 0, .int .u8 0, .int .u8 0, .int .u8 0, .int .u8 0, .int .u8 0, .int .u8 0, .int .u8 0, .int .u8 0, .int .u8 0, .int .u8 0, .int .u8 0, .int .u8 0, .int .u8 0, .int .u8 0, .int .u8 0, .int .u8 0, .int .u8 0, .int .u8 0, .int .u8 0, .int .u8 0, .int .u8 0, .int .u8 0] 23 (0, 0))) := Lib.hid (by rw [← hw3]; exact heap_at _ _ _ rfl)
  have B3 : Hid (Below p wv w3) := Lib.hid (by rw [← hw3]; exact B2.out.trans ((Below.refl _ _).alloc (by have := HR2.out.lt; omega) _))
  have HR3 : Hid (RSt p w3 S d.2) := Lib.hid (HR2.out.below (by rw [← hw3]; exact (Below.refl _ _).alloc (Nat.le_refl _) _))
  rw [hw3]
  clear hw3
  refine (HRP.out _ w3 R3.out).mono ?_
  rintro ev w4 ⟨G, cs0, hG, rfl, hC0, hR4, b4⟩
  have HG := Lib.hid hG
  have HC0 := Lib.hid hC0
  have RG4 := Lib.hid hR4
  have B4 : Hid (Below p wv w4) := Lib.hid (B3.out.trans (b4.mono (by have := HR3.out.lt; omega)))
  have HR4 := Lib.hid (HR3.out.below b4)
  clear hG hC0 hR4 b4
  go_upto_region 4 with fail
  obtain ⟨sb, hsb⟩ : ∃ x, w4.heap.size = x := ⟨_, rfl⟩
  obtain ⟨w5, hw5⟩ : ∃ x, w4.alloc (.cells #[.int .i64 0, .slice (some ⟨G, 0, none⟩) 67 67, .slice none 0 0] 26) = x := ⟨_, rfl⟩
  have B45 : Hid (Below w4.heap.size w4 w5) := Lib.hid (by rw [← hw5]; exact (Below.refl _ _).alloc (Nat.le_refl _) _)
  have hgl4 : G < w4.heap.size := (Array.getElem?_eq_some_iff.1 RG4.out).1
  have HO : Hid (w.heap.size < p ∧ p < G ∧ G < sb ∧ w5.heap.size = sb + 1) := Lib.hid ⟨by have := HP.out; omega, by have := HP.out; have := HG.out; have := HR3.out.lt; omega, by omega, by rw [← hw5, ← hsb]; simp⟩
  have RQ5 : Hid (w5.heap[sb]? = some (.cells #[.int .i64 0, .slice (some ⟨G, 0, none⟩) 67 67, .slice none 0 0] 26 (0, 0))) := Lib.hid (by rw [← hw5, ← hsb]; exact heap_at _ _ _ rfl)
  have RG5 := Lib.hid ((B45.out.block _ hgl4).trans RG4.out)
  have HR5 := Lib.hid (HR4.out.below B45.out)
  have B5 : Hid (Below p wv w5) := Lib.hid (B4.out.trans (B45.out.mono (by have := HR4.out.lt; omega)))
  have HF0 := Lib.hid (FillC.new (hsS S d.2) HC0.out.1)
  rw [hw5, hsb]
  clear hw5 hsb hgl4
  have z5 : w5.cell? ⟨sb, 1, none⟩ = some (.slice (some ⟨G, 0, none⟩) 67 67) := (cell_of_row w5 sb 1 _ 26 (0, 0) RQ5.out).trans rfl
  go_wp2_with fail
  clear z5
  go_loopw [20] (fun k wr => ∃ (i : Nat) (cs : List Value), i ≤ 67 ∧ k = .int .i64 i ∧ Hid (FillC cs 67 (hsS S d.2) i) ∧ Hid (wr.heap[G]? = some (.cells cs.toArray 23 (0, 0))) ∧ Hid (RSt p wr S (stS S d.2 i)) ∧ Hid (But (fun b => b = p ∨ b = G) w5 wr)) (fun k _ => 67 - (intOf k).toNat)
  case atStart => exact ⟨0, cs0, Nat.zero_le _, rfl, HF0, RG5, HR5, Lib.hid (But.refl _ _)⟩
  case round =>
    obtain ⟨i, cs, hi, rfl, HC, HR, HST, HB⟩ := hrel
    have hsr := HB.out.size
    obtain ⟨ho1, ho2, ho3, ho4⟩ := HO.out
    have hpw : p < wr.heap.size := HST.out.lt
    have HBW : Hid (Below p wv wr) := Lib.hid (B5.out.trans (HB.out.to_below (by omega) (fun k hk y => by rcases y with y | y <;> omega)))
    have RQr : Hid (wr.heap[sb]? = some (.cells #[.int .i64 0, .slice (some ⟨G, 0, none⟩) 67 67, .slice none 0 0] 26 (0, 0))) := Lib.hid ((HB.out.same _ (by omega) (by omega)).trans RQ5.out)
    by_cases hlt : i < 67
    · obtain ⟨vn, evn, Hvn, Zvn, Ivn, Ovn⟩ := row_of (hsS S d.2 i) (hsS_length _ _ _)
      have HLN : Hid (vn.toList = bytesV (hsS S d.2 i)) := Lib.hid (by rw [← Hvn.out])
      have HH1 : Hid (∀ w', Below p wv w' → RSt p w' S (stS S d.2 i) → Calls Tryz.prog 112 #[.pointer (some ⟨p, 0, none⟩)] w' fun ev w2 => ev = .returned (.agg vn) ∧ RSt p w2 S (stS S d.2 (i + 1)) ∧ But (· = p) w' w2) := Lib.hid (fun w' hb h => by
        have := HHS.out (stS S d.2 i) w' hb h
        rw [show hv (hashS S (stS S d.2 i)).1 = .agg vn from evn] at this; exact this)
      obtain ⟨rv, hrv, hrc⟩ := HST.out.row
      have HRV := Lib.hid hrv
      have HRC := Lib.hid hrc
      have KD : Hid (∀ w', But (fun b => b = p ∨ b = G) wr w' → w'.cell? ⟨sb, 1, none⟩ = some (.slice (some ⟨G, 0, none⟩) 67 67)) := Lib.hid (fun w' h => (cell_of_row w' sb 1 _ 26 (0, 0) ((h.same _ (by omega) (by omega)).trans RQr.out)).trans rfl)
      have i0 : (0 : Int) ≤ i := by omega
      have i1 : (i : Int) < 67 := by omega
      clear evn hrv hrc
      go_upto_region 7 with fail
      refine wp_region_held_drew (S := But (fun b => b = p ∨ b = G) wr) (by kernel_rfl) (But.refl _ _).drew (fun hHeld => ?_)
      refine tk (i := 0) (v := ?v1) rfl ?y1 ?r1
      case y1 => (intro w hSw; (try dsimp only at hSw); go_simp; (try with_reducible rfl))
      try simp only [pu]
      refine tk (i := 1) (v := ?v2) rfl ?y2 ?r2
      case y2 => (intro w hSw; (try dsimp only at hSw); have z0 := KD.out w hSw; go_simp; (try with_reducible rfl))
      try simp only [pu]
      refine tk (i := 2) (v := ?v3) rfl ?y3 ?r3
      case y3 => (intro w hSw; (try dsimp only at hSw); go_simp; (try with_reducible rfl))
      try simp only [pu]
      refine tk (i := 3) (v := ?v4) rfl ?y4 ?r4
      case y4 => (intro w hSw; (try dsimp only at hSw); go_simp; (try with_reducible rfl))
      try simp only [pu]
      refine wpAnyH_ready (rs := [4]) (by kernel_rfl) (by simp) ?_
      refine AllReadyH.cons (i := 4) rfl (fun K2 hK2 => ?_) AllReadyH.nil
      go_simp
      go_at_call 112
      refine (HH1.out wr.drew (HBW.out.trans (But.to_below ((But.refl (fun b => b = p ∨ b = G) wr).drew) (Nat.le_of_lt hpw) (fun k hk y => by rcases y with y | y <;> omega))) (HRC.out wr.drew (show wr.drew.heap[p]? = _ from HRV.out))).mono ?_
      rintro ev w701 ⟨rfl, hR9, b9⟩
      try go_wp2_with fail
      have Kw701 := Lib.hid (But.step ((But.refl (fun b => b = p ∨ b = G) wr).drew) b9 (fun k _ y => .inl y))
      have Tw701_0 := Lib.hid ((b9.same _ (Array.getElem?_eq_some_iff.1 (show wr.drew.heap[G]? = _ from HR.out)).1 (by omega)).trans (show wr.drew.heap[G]? = _ from HR.out))
      obtain ⟨rv9, hrv9, hrc9⟩ := RSt.row (show RSt p w701 S _ from hR9)
      have Tw701_p := Lib.hid hrv9
      have HRC9 := Lib.hid hrc9
      clear hR9 b9 hrv9 hrc9
      refine hK2.out _ _ Kw701.out (fun hHeld2 => ?_)
      clear hK2 K2
      try simp only [pu]
      refine tk (i := 5) (v := ?v5) rfl ?y5 ?r5
      case y5 => (intro w hSw; (try dsimp only at hSw); go_simp; (try with_reducible rfl))
      try simp only [pu]
      refine wpAnyH_ready (rs := [6]) (by kernel_rfl) (by simp) ?_
      refine AllReadyH.cons (i := 6) rfl (fun K2 hK2 => ?_) AllReadyH.nil
      rw [if_pos (by rfl)]
      refine wp_store_mid 23 _ _ rfl G (i * 32) vn rfl rfl (there_row Tw701_0.out (by rw [Zvn.out]; rw [HC.out.1]; omega)) Ivn.out Ovn.out ?_
      obtain ⟨w702, hw702⟩ : ∃ x, w701.setCells G (i * 32) vn.toList = x := ⟨_, rfl⟩
      obtain ⟨Kw702, Tw702_0, fw702⟩ := st_mid Kw701.out hw702 (fun _ => .inr rfl) Tw701_0.out
      have Kw702 := Lib.hid Kw702
      have Tw702_0 := Lib.hid Tw702_0
      have Tw702_1 := Lib.hid (fw702 _ _ (by omega) Tw701_p.out)
      clear fw702
      rw [hw702]
      clear hw702
      refine hK2.out _ _ Kw702.out (fun hHeld2 => ?_)
      clear hK2 K2
      try simp only [pu]
      refine wpAnyH_done (by kernel_rfl) ?_ _
      have KE : Hid (But (fun b => b = p ∨ b = G) wr w702) := Lib.hid Kw702.out
      have TE := Lib.hid Tw702_0.out
      have TR := Lib.hid (HRC9.out _ Tw702_1.out)
      rw [HLN.out] at TE
      go_wp2
      go_roundw
      case rel => exact ⟨i + 1, _, by omega, by go_num, Lib.hid (HC.out.set hlt (hsS_length S d.2)), TE, TR, Lib.hid (HB.out.step KE.out (fun _ _ q => q))⟩
      case measure => simp [intOf]; omega
    · obtain rfl : i = 67 := by omega
      have hF32 : ∀ i, (hsS S d.2 i).length = 32 := fun i => hsS_length _ _ i
      obtain ⟨e, he⟩ : ∃ e, varS S (stS S d.2 67) = e := ⟨_, rfl⟩
      have HDE : Hid (decS S = ⟨d.1, d.2, e.1, e.2, stS S e.2 (min e.1 6)⟩) := Lib.hid (by unfold decS; simp only [HD.out, he])
      have HV2 := HVS.out _ wr HBW.out HST.out
      rw [he] at HV2
      have HV2 := Lib.hid HV2
      obtain ⟨wo, rfl⟩ : ∃ x, x = wr := ⟨_, rfl⟩
      have HCF : Hid (FillC cs 67 (hsS S d.2) 67) := Lib.hid HC.out
      have RG := Lib.hid HR.out
      clear he hF32 HC HR hlt hi
      by_cases hn : e.1 ≤ 6
      · have HM : Hid (e.1 = min e.1 6 ∧ e.1 ≤ 6) := Lib.hid ⟨by omega, hn⟩
        go_wp2_with fail
        refine HV2.out.mono ?_
        rintro ev w6 ⟨rfl, hr6, b6⟩
        have HR6 := Lib.hid hr6
        have B6 : Hid (Below p wv w6) := Lib.hid (HBW.out.trans (b6.to_below (Nat.le_of_lt hpw) (fun k hk q => by omega)))
        have R6 : Hid (w6.heap[sb]? = some (.cells #[.int .i64 0, .slice (some ⟨G, 0, none⟩) 67 67, .slice none 0 0] 26 (0, 0))) := Lib.hid ((b6.same _ (by omega) (by omega)).trans RQr.out)
        have RG6 := Lib.hid ((b6.same _ (by omega) (by omega)).trans RG.out)
        have h6s : Hid (sb < w6.heap.size) := Lib.hid (Array.getElem?_eq_some_iff.1 R6.out).1
        clear hr6 b6 hpw HBW RQr
        go_upto_region 11 with fail
        go_loopw [34] (fun c wr => ∃ (j : Nat) (v : Value), j ≤ e.1 ∧ c = .int .u64 j ∧ Hid (wr.ownsRow w6.heap.size 23 32 v j (hashCells ((List.range j).map (hsS S e.2)))) ∧ Hid (wr.heap[sb]? = some (.cells #[.int .i64 0, .slice (some ⟨G, 0, none⟩) 67 67, v] 26 (0, 0))) ∧ Hid (RSt p wr S (stS S e.2 j)) ∧ Hid (But (fun b => b = p ∨ b = sb) w6 wr)) (fun c _ => e.1 - (intOf c).toNat)
        case atStart => exact ⟨0, .slice none 0 0, Nat.zero_le _, rfl, Lib.hid (World.ownsRow_nil _ _ _ _), R6, HR6, Lib.hid (But.refl _ _)⟩
        case round =>
          obtain ⟨j, v, hj, rfl, OWN, HR, HST, HB⟩ := hrel
          have hsr := HB.out.size
          obtain ⟨ho1, ho2, ho3, ho4⟩ := HO.out
          have hs6 := h6s.out
          have hpw : p < wr.heap.size := HST.out.lt
          have HLT := Lib.hid (fun k q => (OWN.out.lt k q).1)
          have HNB : Hid (v.ownBlock ≠ some sb) := Lib.hid (fun q => by have := HLT.out _ q; omega)
          have HNP : Hid (v.ownBlock ≠ some p) := Lib.hid (fun q => by have := HLT.out _ q; omega)
          have HBW : Hid (Below p wv wr) := Lib.hid (B6.out.trans (HB.out.to_below (by omega) (fun k hk y => by rcases y with y | y <;> omega)))
          by_cases hlt : j < e.1
          · have HPO : Hid (∀ k, k < w6.heap.size → (k = p ∨ k = sb ∨ v.ownBlock = some k) → (k = p ∨ k = sb)) := Lib.hid (fun k hk q => by
              rcases q with q | q | q
              · exact .inl q
              · exact .inr q
              · have := HLT.out k q; omega)
            obtain ⟨vn, evn, Hvn, Zvn, Ivn, Ovn⟩ := row_of (hsS S e.2 j) (hsS_length _ _ _)
            have HH2 : Hid (∀ w', Below p wv w' → RSt p w' S (stS S e.2 j) → Calls Tryz.prog 112 #[.pointer (some ⟨p, 0, none⟩)] w' fun ev w2 => ev = .returned (.agg vn) ∧ RSt p w2 S (stS S e.2 (j + 1)) ∧ But (· = p) w' w2) := Lib.hid (fun w' hb h => by
              have := HHS.out (stS S e.2 j) w' hb h
              rw [show hv (hashS S (stS S e.2 j)).1 = .agg vn from evn] at this; exact this)
            obtain ⟨rv, hrv, hrc⟩ := HST.out.row
            have HRV := Lib.hid hrv
            have HRC := Lib.hid hrc
            have HSN : Hid (∀ (w' : World) (v9 : Value), w'.ownsRow w6.heap.size 23 32 v9 (j + 1) (hashCells ((List.range j).map (hsS S e.2)) ++ hashCells [hsS S e.2 j]) → Hid (w'.ownsRow w6.heap.size 23 32 v9 (j + 1) (hashCells ((List.range (j + 1)).map (hsS S e.2))))) := Lib.hid (fun w' v9 h => Lib.hid (by
              rw [List.range_succ, List.map_append]
              rw [← hashCells_append] at h
              exact h))
            have k0 : (0 : Int) ≤ j := by omega
            have k1 : (j : Int) < e.1 := by omega
            clear evn hrv hrc
            go_upto_region 12 with fail
            refine wp_region_held_drew (S := But (fun k => k = p ∨ k = sb ∨ v.ownBlock = some k) wr) (by kernel_rfl) (But.refl _ _).drew (fun hHeld => ?_)
            refine tk (i := 0) (v := ?v6) rfl ?y6 ?r6
            case y6 => (intro w hSw; (try dsimp only at hSw); go_simp; (try with_reducible rfl))
            try simp only [pu]
            refine tk (i := 2) (v := ?v7) rfl ?y7 ?r7
            case y7 => (intro w hSw; (try dsimp only at hSw); go_simp; (try with_reducible rfl))
            try simp only [pu]
            refine wpAnyH_ready (rs := [1, 3]) (by kernel_rfl) (by simp) ?_
            refine AllReadyH.cons (i := 1) rfl (fun K2 hK2 => ?_) ?more8
            · skip
              have z0 : wr.drew.cell? ⟨sb, 2, none⟩ = some v := (cell_of_row wr.drew sb 2 _ 26 (0, 0) (show wr.drew.heap[sb]? = _ from HR.out)).trans rfl
              go_simp
              refine hK2.out _ _ ((But.refl (fun k => k = p ∨ k = sb ∨ v.ownBlock = some k) wr).drew) (fun hHeld2 => ?_)
              clear hK2 K2
              try simp only [pu]
              refine wpAnyH_ready (rs := [3]) (by kernel_rfl) (by simp) ?_
              refine AllReadyH.cons (i := 3) rfl (fun K2 hK2 => ?_) AllReadyH.nil
              go_simp
              go_at_call 112
              refine (HH2.out wr.drew (HBW.out.trans (But.to_below ((But.refl (fun k => k = p ∨ k = sb ∨ v.ownBlock = some k) wr).drew) (Nat.le_of_lt hpw) (fun k hk y => by rcases y with y | y | y <;> first | omega | (have := HLT.out k y; omega)))) (HRC.out wr.drew (show wr.drew.heap[p]? = _ from HRV.out))).mono ?_
              rintro ev w703 ⟨rfl, hR9, b9⟩
              try go_wp2_with fail
              have Kw703 := Lib.hid (But.step ((But.refl (fun k => k = p ∨ k = sb ∨ v.ownBlock = some k) wr).drew) b9 (fun k _ y => .inl y))
              have Tw703_0 := Lib.hid ((b9.same _ (Array.getElem?_eq_some_iff.1 (show wr.drew.heap[sb]? = _ from HR.out)).1 (by omega)).trans (show wr.drew.heap[sb]? = _ from HR.out))
              obtain ⟨rv9, hrv9, hrc9⟩ := RSt.row (show RSt p w703 S _ from hR9)
              have Tw703_p := Lib.hid hrv9
              have HRC9 := Lib.hid hrc9
              have Ow703 := Lib.hid (own_keep_ne (b := p) (fun k x hk hx => (b9.same k (Array.getElem?_eq_some_iff.1 hx).1 hk).trans hx) (own_drew OWN.out) HNP.out)
              clear hR9 b9 hrv9 hrc9
              refine hK2.out _ _ Kw703.out (fun hHeld2 => ?_)
              clear hK2 K2
              try simp only [pu]
              refine wpAnyH_ready (rs := [4]) (by kernel_rfl) (by simp) ?_
              refine AllReadyH.cons (i := 4) rfl (fun K2 hK2 => ?_) AllReadyH.nil
              rw [if_pos (by rfl)]
              refine wp_buildSlice_row 24 23 _ vn _ 32 rfl rfl Tryz.underlying24 Tryz.sizeOf23 Tryz.zeroValue23 rfl Zvn.out (by omega) (by omega) ?_
              obtain ⟨w704, hw704⟩ : ∃ x, (w703.alloc (.cells vn 23)) = x := ⟨_, rfl⟩
              obtain ⟨g704, hg704⟩ : ∃ x, w703.heap.size = x := ⟨_, rfl⟩
              obtain ⟨Kw704, Tw704_2, qw704, fw704⟩ := st_alloc Kw703.out hw704 hg704
              rw [hw704, hg704]; clear hw704 hg704
              have Kw704 := Lib.hid Kw704
              have Tw704_2 := Lib.hid Tw704_2
              obtain ⟨Tw704_0, dw704_0⟩ := fw704 _ _ Tw703_0.out
              have Tw704_0 := Lib.hid Tw704_0
              obtain ⟨Tw704_1, dw704_1⟩ := fw704 _ _ Tw703_p.out
              have Tw704_1 := Lib.hid Tw704_1
              have Ow704 := Lib.hid (own_keep (fun k x h => (fw704 k x h).1) Ow703.out)
              clear fw704
              refine hK2.out _ _ Kw704.out (fun hHeld2 => ?_)
              clear hK2 K2
              try simp only [pu]
              refine wpAnyH_ready (rs := [5]) (by kernel_rfl) (by simp) ?_
              refine AllReadyH.cons (i := 5) rfl (fun K2 hK2 => ?_) AllReadyH.nil
              rw [if_pos (by rfl)]
              refine wp_append_list _ _ 24 rfl w6.heap.size _ 23 i0 _ 32 32 Tryz.underlying24 hi hz0 hz1 hz2 rfl (by decide) v (.slice (some ⟨g704, 0, none⟩) 1 1) j 1 (hashCells ((List.range j).map (hsS S e.2))) (hashCells [(hsS S e.2 j)]) rfl rfl Ow704.out (own_at (hsS S e.2 j) Tw704_2.out Hvn.out Zvn.out) (hashCells_cell _) (by unfold maxLen; omega) (by omega) (by have := (Kw704.out).size; omega) ?_
              intro v9 w705 o9 g9 a9
              obtain ⟨A9, C9, rfl, hC9⟩ := own_shape o9
              obtain ⟨Kw705, fw705⟩ := st_grow Kw704.out g9 (fun k q => .inr (.inr q))
              have Kw705 := Lib.hid Kw705
              have Ow705 := Lib.hid o9
              have Tw705_0 := Lib.hid (fw705 _ _ HNB.out Tw704_0.out)
              have Tw705_1 := Lib.hid (fw705 _ _ HNP.out Tw704_1.out)
              have HNB9 : (Value.slice A9 (j + 1) C9).ownBlock ≠ some sb := by
                rcases a9 with q | q
                · rw [q]; exact HNB.out
                · rw [q]; intro e; injection e with e; have := (Kw704.out).size; omega
              clear fw705 o9 g9 a9
              refine hK2.out _ _ Kw705.out (fun hHeld2 => ?_)
              clear hK2 K2
              try simp only [pu]
              refine tk (i := 6) (v := ?v9) rfl ?y9 ?r9
              case y9 => (intro w hSw; (try dsimp only at hSw); go_simp; (try with_reducible rfl))
              try simp only [pu]
              refine wpAnyH_ready (rs := [7]) (by kernel_rfl) (by simp) ?_
              refine AllReadyH.cons (i := 7) rfl (fun K2 hK2 => ?_) AllReadyH.nil
              have c9 : w705.cell? ⟨sb, 2, none⟩ = some v := (cell_of_row w705 sb 2 _ 26 (0, 0) Tw705_0.out).trans rfl
              have f9 := frozen_of_row w705 sb 2 _ 26 Tw705_0.out
              go_simp
              obtain ⟨w706, hw706⟩ : ∃ x, w705.setCell ⟨sb, 2, none⟩ (Value.slice A9 (j + 1) C9) = x := ⟨_, rfl⟩
              obtain ⟨Kw706, Tw706_0, fw706⟩ := st_cell Kw705.out hw706 (fun _ => .inr (.inl rfl)) Tw705_0.out
              have Kw706 := Lib.hid Kw706
              have Tw706_0 := Lib.hid Tw706_0
              have Tw706_1 := Lib.hid (fw706 _ _ (by omega) Tw705_1.out)
              have Ow706 := Lib.hid (own_keep_ne fw706 Ow705.out HNB9)
              clear fw706
              rw [hw706]
              clear hw706
              refine hK2.out _ _ Kw706.out (fun hHeld2 => ?_)
              clear hK2 K2
              try simp only [pu]
              refine wpAnyH_done (by kernel_rfl) ?_ _
              have KE := Lib.hid Kw706.out
              have TE := Lib.hid Tw706_0.out
              have TR := Lib.hid (HRC9.out _ Tw706_1.out)
              have OE := Lib.hid Ow706.out
              go_wp2
              go_roundw
              case rel => exact ⟨j + 1, _, by omega, by go_num, HSN.out _ _ OE.out, Lib.hid TE.out, TR, Lib.hid (HB.out.step KE.out (fun k hk q => HPO.out k hk q))⟩
              case measure => simp [intOf]; omega

            refine AllReadyH.cons (i := 3) rfl (fun K2 hK2 => ?_) ?more10
            · skip
              go_simp
              go_at_call 112
              refine (HH2.out wr.drew (HBW.out.trans (But.to_below ((But.refl (fun k => k = p ∨ k = sb ∨ v.ownBlock = some k) wr).drew) (Nat.le_of_lt hpw) (fun k hk y => by rcases y with y | y | y <;> first | omega | (have := HLT.out k y; omega)))) (HRC.out wr.drew (show wr.drew.heap[p]? = _ from HRV.out))).mono ?_
              rintro ev w707 ⟨rfl, hR9, b9⟩
              try go_wp2_with fail
              have Kw707 := Lib.hid (But.step ((But.refl (fun k => k = p ∨ k = sb ∨ v.ownBlock = some k) wr).drew) b9 (fun k _ y => .inl y))
              have Tw707_0 := Lib.hid ((b9.same _ (Array.getElem?_eq_some_iff.1 (show wr.drew.heap[sb]? = _ from HR.out)).1 (by omega)).trans (show wr.drew.heap[sb]? = _ from HR.out))
              obtain ⟨rv9, hrv9, hrc9⟩ := RSt.row (show RSt p w707 S _ from hR9)
              have Tw707_p := Lib.hid hrv9
              have HRC9 := Lib.hid hrc9
              have Ow707 := Lib.hid (own_keep_ne (b := p) (fun k x hk hx => (b9.same k (Array.getElem?_eq_some_iff.1 hx).1 hk).trans hx) (own_drew OWN.out) HNP.out)
              clear hR9 b9 hrv9 hrc9
              refine hK2.out _ _ Kw707.out (fun hHeld2 => ?_)
              clear hK2 K2
              try simp only [pu]
              refine wpAnyH_ready (rs := [1, 4]) (by kernel_rfl) (by simp) ?_
              refine AllReadyH.cons (i := 1) rfl (fun K2 hK2 => ?_) ?more11
              · skip
                have z0 : w707.cell? ⟨sb, 2, none⟩ = some v := (cell_of_row w707 sb 2 _ 26 (0, 0) Tw707_0.out).trans rfl
                go_simp
                refine hK2.out _ _ Kw707.out (fun hHeld2 => ?_)
                clear hK2 K2
                try simp only [pu]
                refine wpAnyH_ready (rs := [4]) (by kernel_rfl) (by simp) ?_
                refine AllReadyH.cons (i := 4) rfl (fun K2 hK2 => ?_) AllReadyH.nil
                rw [if_pos (by rfl)]
                refine wp_buildSlice_row 24 23 _ vn _ 32 rfl rfl Tryz.underlying24 Tryz.sizeOf23 Tryz.zeroValue23 rfl Zvn.out (by omega) (by omega) ?_
                obtain ⟨w708, hw708⟩ : ∃ x, (w707.alloc (.cells vn 23)) = x := ⟨_, rfl⟩
                obtain ⟨g708, hg708⟩ : ∃ x, w707.heap.size = x := ⟨_, rfl⟩
                obtain ⟨Kw708, Tw708_2, qw708, fw708⟩ := st_alloc Kw707.out hw708 hg708
                rw [hw708, hg708]; clear hw708 hg708
                have Kw708 := Lib.hid Kw708
                have Tw708_2 := Lib.hid Tw708_2
                obtain ⟨Tw708_0, dw708_0⟩ := fw708 _ _ Tw707_0.out
                have Tw708_0 := Lib.hid Tw708_0
                obtain ⟨Tw708_1, dw708_1⟩ := fw708 _ _ Tw707_p.out
                have Tw708_1 := Lib.hid Tw708_1
                have Ow708 := Lib.hid (own_keep (fun k x h => (fw708 k x h).1) Ow707.out)
                clear fw708
                refine hK2.out _ _ Kw708.out (fun hHeld2 => ?_)
                clear hK2 K2
                try simp only [pu]
                refine wpAnyH_ready (rs := [5]) (by kernel_rfl) (by simp) ?_
                refine AllReadyH.cons (i := 5) rfl (fun K2 hK2 => ?_) AllReadyH.nil
                rw [if_pos (by rfl)]
                refine wp_append_list _ _ 24 rfl w6.heap.size _ 23 i0 _ 32 32 Tryz.underlying24 hi hz0 hz1 hz2 rfl (by decide) v (.slice (some ⟨g708, 0, none⟩) 1 1) j 1 (hashCells ((List.range j).map (hsS S e.2))) (hashCells [(hsS S e.2 j)]) rfl rfl Ow708.out (own_at (hsS S e.2 j) Tw708_2.out Hvn.out Zvn.out) (hashCells_cell _) (by unfold maxLen; omega) (by omega) (by have := (Kw708.out).size; omega) ?_
                intro v9 w709 o9 g9 a9
                obtain ⟨A9, C9, rfl, hC9⟩ := own_shape o9
                obtain ⟨Kw709, fw709⟩ := st_grow Kw708.out g9 (fun k q => .inr (.inr q))
                have Kw709 := Lib.hid Kw709
                have Ow709 := Lib.hid o9
                have Tw709_0 := Lib.hid (fw709 _ _ HNB.out Tw708_0.out)
                have Tw709_1 := Lib.hid (fw709 _ _ HNP.out Tw708_1.out)
                have HNB9 : (Value.slice A9 (j + 1) C9).ownBlock ≠ some sb := by
                  rcases a9 with q | q
                  · rw [q]; exact HNB.out
                  · rw [q]; intro e; injection e with e; have := (Kw708.out).size; omega
                clear fw709 o9 g9 a9
                refine hK2.out _ _ Kw709.out (fun hHeld2 => ?_)
                clear hK2 K2
                try simp only [pu]
                refine tk (i := 6) (v := ?v12) rfl ?y12 ?r12
                case y12 => (intro w hSw; (try dsimp only at hSw); go_simp; (try with_reducible rfl))
                try simp only [pu]
                refine wpAnyH_ready (rs := [7]) (by kernel_rfl) (by simp) ?_
                refine AllReadyH.cons (i := 7) rfl (fun K2 hK2 => ?_) AllReadyH.nil
                have c9 : w709.cell? ⟨sb, 2, none⟩ = some v := (cell_of_row w709 sb 2 _ 26 (0, 0) Tw709_0.out).trans rfl
                have f9 := frozen_of_row w709 sb 2 _ 26 Tw709_0.out
                go_simp
                obtain ⟨w710, hw710⟩ : ∃ x, w709.setCell ⟨sb, 2, none⟩ (Value.slice A9 (j + 1) C9) = x := ⟨_, rfl⟩
                obtain ⟨Kw710, Tw710_0, fw710⟩ := st_cell Kw709.out hw710 (fun _ => .inr (.inl rfl)) Tw709_0.out
                have Kw710 := Lib.hid Kw710
                have Tw710_0 := Lib.hid Tw710_0
                have Tw710_1 := Lib.hid (fw710 _ _ (by omega) Tw709_1.out)
                have Ow710 := Lib.hid (own_keep_ne fw710 Ow709.out HNB9)
                clear fw710
                rw [hw710]
                clear hw710
                refine hK2.out _ _ Kw710.out (fun hHeld2 => ?_)
                clear hK2 K2
                try simp only [pu]
                refine wpAnyH_done (by kernel_rfl) ?_ _
                have KE := Lib.hid Kw710.out
                have TE := Lib.hid Tw710_0.out
                have TR := Lib.hid (HRC9.out _ Tw710_1.out)
                have OE := Lib.hid Ow710.out
                go_wp2
                go_roundw
                case rel => exact ⟨j + 1, _, by omega, by go_num, HSN.out _ _ OE.out, Lib.hid TE.out, TR, Lib.hid (HB.out.step KE.out (fun k hk q => HPO.out k hk q))⟩
                case measure => simp [intOf]; omega
              
              refine AllReadyH.cons (i := 4) rfl (fun K2 hK2 => ?_) ?more13
              · skip
                rw [if_pos (by rfl)]
                refine wp_buildSlice_row 24 23 _ vn _ 32 rfl rfl Tryz.underlying24 Tryz.sizeOf23 Tryz.zeroValue23 rfl Zvn.out (by omega) (by omega) ?_
                obtain ⟨w711, hw711⟩ : ∃ x, (w707.alloc (.cells vn 23)) = x := ⟨_, rfl⟩
                obtain ⟨g711, hg711⟩ : ∃ x, w707.heap.size = x := ⟨_, rfl⟩
                obtain ⟨Kw711, Tw711_2, qw711, fw711⟩ := st_alloc Kw707.out hw711 hg711
                rw [hw711, hg711]; clear hw711 hg711
                have Kw711 := Lib.hid Kw711
                have Tw711_2 := Lib.hid Tw711_2
                obtain ⟨Tw711_0, dw711_0⟩ := fw711 _ _ Tw707_0.out
                have Tw711_0 := Lib.hid Tw711_0
                obtain ⟨Tw711_1, dw711_1⟩ := fw711 _ _ Tw707_p.out
                have Tw711_1 := Lib.hid Tw711_1
                have Ow711 := Lib.hid (own_keep (fun k x h => (fw711 k x h).1) Ow707.out)
                clear fw711
                refine hK2.out _ _ Kw711.out (fun hHeld2 => ?_)
                clear hK2 K2
                try simp only [pu]
                refine wpAnyH_ready (rs := [1]) (by kernel_rfl) (by simp) ?_
                refine AllReadyH.cons (i := 1) rfl (fun K2 hK2 => ?_) AllReadyH.nil
                have z0 : w711.cell? ⟨sb, 2, none⟩ = some v := (cell_of_row w711 sb 2 _ 26 (0, 0) Tw711_0.out).trans rfl
                go_simp
                refine hK2.out _ _ Kw711.out (fun hHeld2 => ?_)
                clear hK2 K2
                try simp only [pu]
                refine wpAnyH_ready (rs := [5]) (by kernel_rfl) (by simp) ?_
                refine AllReadyH.cons (i := 5) rfl (fun K2 hK2 => ?_) AllReadyH.nil
                rw [if_pos (by rfl)]
                refine wp_append_list _ _ 24 rfl w6.heap.size _ 23 i0 _ 32 32 Tryz.underlying24 hi hz0 hz1 hz2 rfl (by decide) v (.slice (some ⟨g711, 0, none⟩) 1 1) j 1 (hashCells ((List.range j).map (hsS S e.2))) (hashCells [(hsS S e.2 j)]) rfl rfl Ow711.out (own_at (hsS S e.2 j) Tw711_2.out Hvn.out Zvn.out) (hashCells_cell _) (by unfold maxLen; omega) (by omega) (by have := (Kw711.out).size; omega) ?_
                intro v9 w712 o9 g9 a9
                obtain ⟨A9, C9, rfl, hC9⟩ := own_shape o9
                obtain ⟨Kw712, fw712⟩ := st_grow Kw711.out g9 (fun k q => .inr (.inr q))
                have Kw712 := Lib.hid Kw712
                have Ow712 := Lib.hid o9
                have Tw712_0 := Lib.hid (fw712 _ _ HNB.out Tw711_0.out)
                have Tw712_1 := Lib.hid (fw712 _ _ HNP.out Tw711_1.out)
                have HNB9 : (Value.slice A9 (j + 1) C9).ownBlock ≠ some sb := by
                  rcases a9 with q | q
                  · rw [q]; exact HNB.out
                  · rw [q]; intro e; injection e with e; have := (Kw711.out).size; omega
                clear fw712 o9 g9 a9
                refine hK2.out _ _ Kw712.out (fun hHeld2 => ?_)
                clear hK2 K2
                try simp only [pu]
                refine tk (i := 6) (v := ?v14) rfl ?y14 ?r14
                case y14 => (intro w hSw; (try dsimp only at hSw); go_simp; (try with_reducible rfl))
                try simp only [pu]
                refine wpAnyH_ready (rs := [7]) (by kernel_rfl) (by simp) ?_
                refine AllReadyH.cons (i := 7) rfl (fun K2 hK2 => ?_) AllReadyH.nil
                have c9 : w712.cell? ⟨sb, 2, none⟩ = some v := (cell_of_row w712 sb 2 _ 26 (0, 0) Tw712_0.out).trans rfl
                have f9 := frozen_of_row w712 sb 2 _ 26 Tw712_0.out
                go_simp
                obtain ⟨w713, hw713⟩ : ∃ x, w712.setCell ⟨sb, 2, none⟩ (Value.slice A9 (j + 1) C9) = x := ⟨_, rfl⟩
                obtain ⟨Kw713, Tw713_0, fw713⟩ := st_cell Kw712.out hw713 (fun _ => .inr (.inl rfl)) Tw712_0.out
                have Kw713 := Lib.hid Kw713
                have Tw713_0 := Lib.hid Tw713_0
                have Tw713_1 := Lib.hid (fw713 _ _ (by omega) Tw712_1.out)
                have Ow713 := Lib.hid (own_keep_ne fw713 Ow712.out HNB9)
                clear fw713
                rw [hw713]
                clear hw713
                refine hK2.out _ _ Kw713.out (fun hHeld2 => ?_)
                clear hK2 K2
                try simp only [pu]
                refine wpAnyH_done (by kernel_rfl) ?_ _
                have KE := Lib.hid Kw713.out
                have TE := Lib.hid Tw713_0.out
                have TR := Lib.hid (HRC9.out _ Tw713_1.out)
                have OE := Lib.hid Ow713.out
                go_wp2
                go_roundw
                case rel => exact ⟨j + 1, _, by omega, by go_num, HSN.out _ _ OE.out, Lib.hid TE.out, TR, Lib.hid (HB.out.step KE.out (fun k hk q => HPO.out k hk q))⟩
                case measure => simp [intOf]; omega
              
              exact AllReadyH.nil

            exact AllReadyH.nil
          · obtain rfl : j = e.1 := by omega
            have RGr := Lib.hid ((HB.out.same _ (by omega) (by omega)).trans RG6.out)
            clear hlt hj
            by_cases hx : d.1 ≤ 64
            · 
              have zc : wr.cell? ⟨sb, 0, none⟩ = some (.int .i64 0) := (cell_of_row wr sb 0 _ 26 (0, 0) HR.out).trans rfl
              have zf := frozen_of_row wr sb 0 _ 26 HR.out
              have ew : IntKind.i64.wrap (d.1 : Int) = (d.1 : Int) := IntWalk.i64_in _ (by omega)
              go_upto_region 15 with fail
              obtain ⟨w7, hw7⟩ : ∃ y, wr.setCell ⟨sb, 0, none⟩ (.int .i64 (d.1 : Int)) = y := ⟨_, rfl⟩
              have B7 : Hid (But (· = sb) wr w7) := Lib.hid (by rw [← hw7]; exact (But.refl _ _).setCell _ _ _ (fun _ => rfl))
              have R7 : Hid (w7.heap[sb]? = some (.cells #[.int .i64 (d.1 : Int), .slice (some ⟨G, 0, none⟩) 67 67, v] 26 (0, 0))) := Lib.hid (by rw [← hw7]; exact heap_setCell_same wr sb 0 _ 26 _ HR.out)
              rw [hw7]
              clear hw7 zc zf ew
              obtain ⟨rv, hrv, hrc⟩ := HST.out.row
              have HST7 : Hid (RSt p w7 S (stS S e.2 (e.1))) := Lib.hid (hrc _ ((B7.out.same _ hpw (by omega)).trans hrv))
              clear hrv hrc
              have BP7 : Hid (Below p wv w7) := Lib.hid (HBW.out.trans (B7.out.to_below (Nat.le_of_lt hpw) (fun k hk q => by omega)))
              have RG7 := Lib.hid ((B7.out.same _ (by omega) (by omega)).trans RGr.out)
              have OWN7 : Hid (w7.ownsRow w6.heap.size 23 32 v (e.1) (hashCells ((List.range (e.1)).map (hsS S e.2)))) := Lib.hid (own_keep_ne (b := sb) (fun k x hk hx => (B7.out.same k (Array.getElem?_eq_some_iff.1 hx).1 hk).trans hx) OWN.out HNB.out)
              go_wp2_with fail
              refine (HES.out _ w7 BP7.out HST7.out).mono ?_
              rintro ev w8 ⟨h8, b8⟩
              have BP8 : Hid (Below p wv w8) := Lib.hid (BP7.out.trans (b8.mono (by have := BP7.out.size; have := HP.out.1; omega)))
              have B8 : Hid (Below w.heap.size w w8) := Lib.hid (HBW0.out w8 BP8.out)
              rcases h8 with ⟨h8, rfl⟩ | ⟨h8, q, rfl⟩
              · have H8 := Lib.hid h8
                have R8 : Hid (w8.heap[sb]? = some (.cells #[.int .i64 (d.1 : Int), .slice (some ⟨G, 0, none⟩) 67 67, v] 26 (0, 0))) := Lib.hid ((b8.block _ (Array.getElem?_eq_some_iff.1 R7.out).1).trans R7.out)
                have RG8 := Lib.hid ((b8.block _ (Array.getElem?_eq_some_iff.1 RG7.out).1).trans RG7.out)
                have OWN8 := Lib.hid (own_below OWN7.out b8 (Nat.le_refl _))
                obtain ⟨A9, c9, hA, hI⟩ := hin_own (n := e.1) (l := (List.range e.1).map (hsS S e.2)) (fun z hz => by
                  obtain ⟨k, -, rfl⟩ := List.mem_map.1 hz
                  exact hsS_length _ _ _) (by simp) OWN8.out
                subst hA
                clear hI h8 b8
                obtain ⟨sv, hsv9⟩ : ∃ y : Array Value, #[.int .i64 (d.1 : Int), .slice (some ⟨G, 0, none⟩) 67 67, .slice A9 e.1 c9] = y := ⟨_, rfl⟩
                have Zsv : Hid (sv.size = 3) := Lib.hid (by rw [← hsv9]; rfl)
                have Isv : Hid ((Tryz.prog.info? 26).map (·.size) = some sv.size) := Lib.hid (by rw [Zsv.out]; kernel_rfl)
                have Osv : Hid (sv.all (·.oneCell') = true) := Lib.hid (by rw [← hsv9]; simp [Value.oneCell'])
                have HSV9 := Lib.hid hsv9
                rw [hsv9] at R8
                by_cases hx6 : d.1 < 64
                · have HX : Hid (d.1 < 64) := Lib.hid hx6
                  have HMY : Hid (Calls Tryz.prog 33 #[.agg sv] w8 fun ev w2 => ev = .returned (.bool true) ∧ Below w8.heap.size w8 w2) := Lib.hid (by
                    have h := may_any (d.1 : Int) 67 e.1 (some ⟨G, 0, none⟩) A9 67 c9 w8
                    rw [show decide ((0 : Int) ≤ (d.1 : Int) ∧ (d.1 : Int) < 64 ∧ 67 = 67 ∧ e.1 ≤ 6) = true by (have := HM.out.2; simp <;> omega), hsv9] at h
                    exact h)
                  clear hsv9
                  have fm9 : decide ((6 : Int) < (e.1 : Int)) = false := by simp; exact_mod_cast HM.out.2
                  go_wp2_with (refine wpList_load_row_g rfl 26 _ rfl sb rfl 26 sv (0, 0) _ R8.out Tryz.underlying26 rfl Isv.out ?_)
                  refine HMY.out.mono ?_
                  rintro ev w9 ⟨rfl, b9⟩
                  have BP9 : Hid (Below p wv w9) := Lib.hid (BP8.out.trans (b9.mono (by have := BP8.out.size; have := HP.out.1; omega)))
                  have B9 : Hid (Below w.heap.size w w9) := Lib.hid (HBW0.out w9 BP9.out)
                  have R9 := Lib.hid ((b9.block _ (Array.getElem?_eq_some_iff.1 R8.out).1).trans R8.out)
                  have RG9 := Lib.hid ((b9.block _ (Array.getElem?_eq_some_iff.1 RG8.out).1).trans RG8.out)
                  have OWN9 := Lib.hid (own_below OWN8.out b9 (Nat.le_refl _))
                  have RZ9 : Hid (w9.heap[w.heap.size]? = some (.cells #[.int .i64 0, .slice none 0 0, .slice none 0 0] 26 (0, 0))) := Lib.hid ((BP9.out.block _ HO.out.1).trans RZ.out)
                  clear b9
                  go_wp2_with (first
                    | (refine wpList_load_row rfl 26 _ rfl sb rfl 26 sv (0, 0) _ R9.out Tryz.underlying26 rfl Isv.out ?_)
                    | (refine wpList_store_row_any rfl 26 _ _ rfl w.heap.size sv rfl rfl 26 _ RZ9.out Isv.out (by rw [Zsv.out]; rfl) Osv.out ?_; intro w10 hbN hgN hsN; have B10 := Lib.hid hbN; have R10 := Lib.hid hgN; clear hbN hgN hsN))
                  have hs9 := B9.out.size
                  refine bodyPost_ret (v := .tuple #[.agg sv, .nilIface]) (results_row_tmp rfl _ _ w.heap.size 26 sv (0, 0) _ rfl R10.out Tryz.underlying26 rfl Isv.out _ rfl) rfl ⟨.inl ⟨?_, ?_⟩, B9.out.trans (B10.out.to_below hs9 (fun k hk q => by omega))⟩
                  · rw [HDE.out]
                    exact ⟨(congrArg (stS S e.2) HM.out.1).symm.trans H8.out, HM.out.2, HX.out⟩
                  · rw [HDE.out]
                    refine ⟨G, cs, _, ?_, by rw [← HSV9.out], HCF.out, ?_, ?_, ?_⟩
                    · omega
                    · exact (B10.out.same _ (Array.getElem?_eq_some_iff.1 RG9.out).1 (by omega)).trans RG9.out
                    · exact own_mono (own_keep_ne (b := w.heap.size) (fun k x hk hx => (B10.out.same k (Array.getElem?_eq_some_iff.1 hx).1 hk).trans hx) OWN9.out (fun q => by have := (OWN9.out.lt _ q).1; omega)) (by omega)
                    · exact fun q => by have := (OWN9.out.lt _ q).1; omega
                · have HX : Hid (¬ d.1 < 64) := Lib.hid hx6
                  have HMY : Hid (Calls Tryz.prog 33 #[.agg sv] w8 fun ev w2 => ev = .returned (.bool false) ∧ Below w8.heap.size w8 w2) := Lib.hid (by
                    have h := may_any (d.1 : Int) 67 e.1 (some ⟨G, 0, none⟩) A9 67 c9 w8
                    rw [show decide ((0 : Int) ≤ (d.1 : Int) ∧ (d.1 : Int) < 64 ∧ 67 = 67 ∧ e.1 ≤ 6) = false by (have := HM.out.2; simp <;> omega), hsv9] at h
                    exact h)
                  clear hsv9
                  have fm9 : decide ((6 : Int) < (e.1 : Int)) = false := by simp; exact_mod_cast HM.out.2
                  go_wp2_with (refine wpList_load_row_g rfl 26 _ rfl sb rfl 26 sv (0, 0) _ R8.out Tryz.underlying26 rfl Isv.out ?_)
                  refine HMY.out.mono ?_
                  rintro ev w9 ⟨rfl, b9⟩
                  have BP9 : Hid (Below p wv w9) := Lib.hid (BP8.out.trans (b9.mono (by have := BP8.out.size; have := HP.out.1; omega)))
                  have B9 : Hid (Below w.heap.size w w9) := Lib.hid (HBW0.out w9 BP9.out)
                  clear b9
                  go_wp2_with fail
                  have RZ8 : Hid (w9.heap[w.heap.size]? = some (.cells #[.int .i64 0, .slice none 0 0, .slice none 0 0] 26 (0, 0))) := Lib.hid ((BP9.out.block _ HO.out.1).trans RZ.out)
                  have KEI : Hid (∀ w', But (· = w.heap.size) w9 w' → w'.cell? ⟨4, 0, none⟩ = some (errV a 3)) := Lib.hid (fun w' hw => hw.cell ((HE.out.step B9.out).laid.e3) (fun e => by have := HG3.out; omega))
                  unfold errV at KEI
                  have hs8 := B9.out.size
                  go_upto_region 16 with fail
                  refine wp_region_held_drew (S := But (· = w.heap.size) w9) (by kernel_rfl) (But.refl _ _).drew (fun hHeld => ?_)
                  refine tw (i := 0) rfl (show YieldsIf _ _ _ _ (.agg zs) _ from .inl ⟨by rfl, fun w h => by rw [HZS9.out]; kernel_rfl⟩) ?_
                  try simp only [pu]
                  refine tk (i := 1) (v := ?v19) rfl ?y19 ?r19
                  case y19 => (intro w hSw; (try dsimp only at hSw); have q9 := KEI.out w hSw; go_simp; (try with_reducible rfl))
                  try simp only [pu]
                  refine wpAnyH_ready (rs := [2]) (by kernel_rfl) (by simp) ?_
                  refine AllReadyH.cons (i := 2) rfl (fun K2 hK2 => ?_) AllReadyH.nil
                  rw [if_pos (by rfl)]
                  refine wp_store_row 26 _ _ rfl w.heap.size zs rfl rfl 26 _ (show w9.drew.heap[w.heap.size]? = _ from RZ8.out) Izs.out (by rw [Zzs.out]; rfl) Ozs.out ?_
                  obtain ⟨w715, hw715⟩ : ∃ x, w9.drew.setRow w.heap.size zs = x := ⟨_, rfl⟩
                  obtain ⟨Kw715, Tw715_0, fw715⟩ := st_row ((But.refl (· = w.heap.size) w9).drew) hw715 (fun _ => rfl) (show w9.drew.heap[w.heap.size]? = _ from RZ8.out)
                  have Kw715 := Lib.hid Kw715
                  have Tw715_0 := Lib.hid Tw715_0
                  clear fw715
                  rw [hw715]
                  clear hw715
                  refine hK2.out _ _ Kw715.out (fun hHeld2 => ?_)
                  clear hK2 K2
                  try simp only [pu]
                  refine tk (i := 3) (v := ?v20) rfl ?y20 ?r20
                  case y20 => (intro w hSw; (try dsimp only at hSw); go_simp; (try with_reducible rfl))
                  try simp only [pu]
                  refine wpAnyH_done (by kernel_rfl) ?_ _
                  go_wp2
                  refine bodyPost_ret (v := .tuple #[.agg zs, errV a 3]) (results_row_tmp rfl _ _ w.heap.size 26 zs (0, 0) _ rfl Tw715_0.out Tryz.underlying26 rfl Izs.out _ rfl) rfl ⟨.inr ⟨fun hk => by have := hk.2.2; rw [HDE.out] at this; have h2 := HX.out; simp only at *; omega, by rw [← HZS9.out]⟩, But.to_below Kw715.out B9.out.size (fun k hk q => by omega) |> (B9.out.trans ·)⟩

              · have H8 := Lib.hid h8
                clear h8 b8
                go_wp2_with fail
                have RZ8 : Hid (w8.heap[w.heap.size]? = some (.cells #[.int .i64 0, .slice none 0 0, .slice none 0 0] 26 (0, 0))) := Lib.hid ((BP8.out.block _ HO.out.1).trans RZ.out)
                have KEI : Hid (∀ w', But (· = w.heap.size) w8 w' → w'.cell? ⟨4, 0, none⟩ = some (errV a 3)) := Lib.hid (fun w' hw => hw.cell ((HE.out.step B8.out).laid.e3) (fun e => by have := HG3.out; omega))
                unfold errV at KEI
                have hs8 := B8.out.size
                go_upto_region 16 with fail
                refine wp_region_held_drew (S := But (· = w.heap.size) w8) (by kernel_rfl) (But.refl _ _).drew (fun hHeld => ?_)
                refine tw (i := 0) rfl (show YieldsIf _ _ _ _ (.agg zs) _ from .inl ⟨by rfl, fun w h => by rw [HZS9.out]; kernel_rfl⟩) ?_
                try simp only [pu]
                refine tk (i := 1) (v := ?v16) rfl ?y16 ?r16
                case y16 => (intro w hSw; (try dsimp only at hSw); have q9 := KEI.out w hSw; go_simp; (try with_reducible rfl))
                try simp only [pu]
                refine wpAnyH_ready (rs := [2]) (by kernel_rfl) (by simp) ?_
                refine AllReadyH.cons (i := 2) rfl (fun K2 hK2 => ?_) AllReadyH.nil
                rw [if_pos (by rfl)]
                refine wp_store_row 26 _ _ rfl w.heap.size zs rfl rfl 26 _ (show w8.drew.heap[w.heap.size]? = _ from RZ8.out) Izs.out (by rw [Zzs.out]; rfl) Ozs.out ?_
                obtain ⟨w714, hw714⟩ : ∃ x, w8.drew.setRow w.heap.size zs = x := ⟨_, rfl⟩
                obtain ⟨Kw714, Tw714_0, fw714⟩ := st_row ((But.refl (· = w.heap.size) w8).drew) hw714 (fun _ => rfl) (show w8.drew.heap[w.heap.size]? = _ from RZ8.out)
                have Kw714 := Lib.hid Kw714
                have Tw714_0 := Lib.hid Tw714_0
                clear fw714
                rw [hw714]
                clear hw714
                refine hK2.out _ _ Kw714.out (fun hHeld2 => ?_)
                clear hK2 K2
                try simp only [pu]
                refine tk (i := 3) (v := ?v17) rfl ?y17 ?r17
                case y17 => (intro w hSw; (try dsimp only at hSw); go_simp; (try with_reducible rfl))
                try simp only [pu]
                refine wpAnyH_done (by kernel_rfl) ?_ _
                go_wp2
                refine bodyPost_ret (v := .tuple #[.agg zs, errV a 3]) (results_row_tmp rfl _ _ w.heap.size 26 zs (0, 0) _ rfl Tw714_0.out Tryz.underlying26 rfl Izs.out _ rfl) rfl ⟨.inr ⟨fun hk => H8.out (by have := hk.1; rw [HDE.out] at this; exact (congrArg (stS S e.2) HM.out.1).trans this), by rw [← HZS9.out]⟩, But.to_below Kw714.out B8.out.size (fun k hk q => by omega) |> (B8.out.trans ·)⟩

            · 
              have zc : wr.cell? ⟨sb, 0, none⟩ = some (.int .i64 0) := (cell_of_row wr sb 0 _ 26 (0, 0) HR.out).trans rfl
              have zf := frozen_of_row wr sb 0 _ 26 HR.out
              have ew : IntKind.i64.wrap (64 : Int) = (64 : Int) := IntWalk.i64_in _ (by omega)
              go_upto_region 15 with fail
              obtain ⟨w7, hw7⟩ : ∃ y, wr.setCell ⟨sb, 0, none⟩ (.int .i64 (64 : Int)) = y := ⟨_, rfl⟩
              have B7 : Hid (But (· = sb) wr w7) := Lib.hid (by rw [← hw7]; exact (But.refl _ _).setCell _ _ _ (fun _ => rfl))
              have R7 : Hid (w7.heap[sb]? = some (.cells #[.int .i64 (64 : Int), .slice (some ⟨G, 0, none⟩) 67 67, v] 26 (0, 0))) := Lib.hid (by rw [← hw7]; exact heap_setCell_same wr sb 0 _ 26 _ HR.out)
              rw [hw7]
              clear hw7 zc zf ew
              obtain ⟨rv, hrv, hrc⟩ := HST.out.row
              have HST7 : Hid (RSt p w7 S (stS S e.2 (e.1))) := Lib.hid (hrc _ ((B7.out.same _ hpw (by omega)).trans hrv))
              clear hrv hrc
              have BP7 : Hid (Below p wv w7) := Lib.hid (HBW.out.trans (B7.out.to_below (Nat.le_of_lt hpw) (fun k hk q => by omega)))
              have RG7 := Lib.hid ((B7.out.same _ (by omega) (by omega)).trans RGr.out)
              have OWN7 : Hid (w7.ownsRow w6.heap.size 23 32 v (e.1) (hashCells ((List.range (e.1)).map (hsS S e.2)))) := Lib.hid (own_keep_ne (b := sb) (fun k x hk hx => (B7.out.same k (Array.getElem?_eq_some_iff.1 hx).1 hk).trans hx) OWN.out HNB.out)
              go_wp2_with fail
              refine (HES.out _ w7 BP7.out HST7.out).mono ?_
              rintro ev w8 ⟨h8, b8⟩
              have BP8 : Hid (Below p wv w8) := Lib.hid (BP7.out.trans (b8.mono (by have := BP7.out.size; have := HP.out.1; omega)))
              have B8 : Hid (Below w.heap.size w w8) := Lib.hid (HBW0.out w8 BP8.out)
              rcases h8 with ⟨h8, rfl⟩ | ⟨h8, q, rfl⟩
              · have H8 := Lib.hid h8
                have R8 : Hid (w8.heap[sb]? = some (.cells #[.int .i64 (64 : Int), .slice (some ⟨G, 0, none⟩) 67 67, v] 26 (0, 0))) := Lib.hid ((b8.block _ (Array.getElem?_eq_some_iff.1 R7.out).1).trans R7.out)
                have RG8 := Lib.hid ((b8.block _ (Array.getElem?_eq_some_iff.1 RG7.out).1).trans RG7.out)
                have OWN8 := Lib.hid (own_below OWN7.out b8 (Nat.le_refl _))
                obtain ⟨A9, c9, hA, hI⟩ := hin_own (n := e.1) (l := (List.range e.1).map (hsS S e.2)) (fun z hz => by
                  obtain ⟨k, -, rfl⟩ := List.mem_map.1 hz
                  exact hsS_length _ _ _) (by simp) OWN8.out
                subst hA
                clear hI h8 b8
                obtain ⟨sv, hsv9⟩ : ∃ y : Array Value, #[.int .i64 (64 : Int), .slice (some ⟨G, 0, none⟩) 67 67, .slice A9 e.1 c9] = y := ⟨_, rfl⟩
                have Zsv : Hid (sv.size = 3) := Lib.hid (by rw [← hsv9]; rfl)
                have Isv : Hid ((Tryz.prog.info? 26).map (·.size) = some sv.size) := Lib.hid (by rw [Zsv.out]; kernel_rfl)
                have Osv : Hid (sv.all (·.oneCell') = true) := Lib.hid (by rw [← hsv9]; simp [Value.oneCell'])
                have HSV9 := Lib.hid hsv9
                rw [hsv9] at R8
                have HX : Hid (¬ d.1 < 64) := Lib.hid (by omega)
                have HMY : Hid (Calls Tryz.prog 33 #[.agg sv] w8 fun ev w2 => ev = .returned (.bool false) ∧ Below w8.heap.size w8 w2) := Lib.hid (by
                  have h := may_any (64 : Int) 67 e.1 (some ⟨G, 0, none⟩) A9 67 c9 w8
                  rw [show decide ((0 : Int) ≤ (64 : Int) ∧ (64 : Int) < 64 ∧ 67 = 67 ∧ e.1 ≤ 6) = false by (have := HM.out.2; simp <;> omega), hsv9] at h
                  exact h)
                clear hsv9
                have fm9 : decide ((6 : Int) < (e.1 : Int)) = false := by simp; exact_mod_cast HM.out.2
                go_wp2_with (refine wpList_load_row_g rfl 26 _ rfl sb rfl 26 sv (0, 0) _ R8.out Tryz.underlying26 rfl Isv.out ?_)
                refine HMY.out.mono ?_
                rintro ev w9 ⟨rfl, b9⟩
                have BP9 : Hid (Below p wv w9) := Lib.hid (BP8.out.trans (b9.mono (by have := BP8.out.size; have := HP.out.1; omega)))
                have B9 : Hid (Below w.heap.size w w9) := Lib.hid (HBW0.out w9 BP9.out)
                clear b9
                go_wp2_with fail
                have RZ8 : Hid (w9.heap[w.heap.size]? = some (.cells #[.int .i64 0, .slice none 0 0, .slice none 0 0] 26 (0, 0))) := Lib.hid ((BP9.out.block _ HO.out.1).trans RZ.out)
                have KEI : Hid (∀ w', But (· = w.heap.size) w9 w' → w'.cell? ⟨4, 0, none⟩ = some (errV a 3)) := Lib.hid (fun w' hw => hw.cell ((HE.out.step B9.out).laid.e3) (fun e => by have := HG3.out; omega))
                unfold errV at KEI
                have hs8 := B9.out.size
                go_upto_region 16 with fail
                refine wp_region_held_drew (S := But (· = w.heap.size) w9) (by kernel_rfl) (But.refl _ _).drew (fun hHeld => ?_)
                refine tw (i := 0) rfl (show YieldsIf _ _ _ _ (.agg zs) _ from .inl ⟨by rfl, fun w h => by rw [HZS9.out]; kernel_rfl⟩) ?_
                try simp only [pu]
                refine tk (i := 1) (v := ?v25) rfl ?y25 ?r25
                case y25 => (intro w hSw; (try dsimp only at hSw); have q9 := KEI.out w hSw; go_simp; (try with_reducible rfl))
                try simp only [pu]
                refine wpAnyH_ready (rs := [2]) (by kernel_rfl) (by simp) ?_
                refine AllReadyH.cons (i := 2) rfl (fun K2 hK2 => ?_) AllReadyH.nil
                rw [if_pos (by rfl)]
                refine wp_store_row 26 _ _ rfl w.heap.size zs rfl rfl 26 _ (show w9.drew.heap[w.heap.size]? = _ from RZ8.out) Izs.out (by rw [Zzs.out]; rfl) Ozs.out ?_
                obtain ⟨w717, hw717⟩ : ∃ x, w9.drew.setRow w.heap.size zs = x := ⟨_, rfl⟩
                obtain ⟨Kw717, Tw717_0, fw717⟩ := st_row ((But.refl (· = w.heap.size) w9).drew) hw717 (fun _ => rfl) (show w9.drew.heap[w.heap.size]? = _ from RZ8.out)
                have Kw717 := Lib.hid Kw717
                have Tw717_0 := Lib.hid Tw717_0
                clear fw717
                rw [hw717]
                clear hw717
                refine hK2.out _ _ Kw717.out (fun hHeld2 => ?_)
                clear hK2 K2
                try simp only [pu]
                refine tk (i := 3) (v := ?v26) rfl ?y26 ?r26
                case y26 => (intro w hSw; (try dsimp only at hSw); go_simp; (try with_reducible rfl))
                try simp only [pu]
                refine wpAnyH_done (by kernel_rfl) ?_ _
                go_wp2
                refine bodyPost_ret (v := .tuple #[.agg zs, errV a 3]) (results_row_tmp rfl _ _ w.heap.size 26 zs (0, 0) _ rfl Tw717_0.out Tryz.underlying26 rfl Izs.out _ rfl) rfl ⟨.inr ⟨fun hk => by have := hk.2.2; rw [HDE.out] at this; have h2 := HX.out; simp only at *; omega, by rw [← HZS9.out]⟩, But.to_below Kw717.out B9.out.size (fun k hk q => by omega) |> (B9.out.trans ·)⟩

              · have H8 := Lib.hid h8
                clear h8 b8
                go_wp2_with fail
                have RZ8 : Hid (w8.heap[w.heap.size]? = some (.cells #[.int .i64 0, .slice none 0 0, .slice none 0 0] 26 (0, 0))) := Lib.hid ((BP8.out.block _ HO.out.1).trans RZ.out)
                have KEI : Hid (∀ w', But (· = w.heap.size) w8 w' → w'.cell? ⟨4, 0, none⟩ = some (errV a 3)) := Lib.hid (fun w' hw => hw.cell ((HE.out.step B8.out).laid.e3) (fun e => by have := HG3.out; omega))
                unfold errV at KEI
                have hs8 := B8.out.size
                go_upto_region 16 with fail
                refine wp_region_held_drew (S := But (· = w.heap.size) w8) (by kernel_rfl) (But.refl _ _).drew (fun hHeld => ?_)
                refine tw (i := 0) rfl (show YieldsIf _ _ _ _ (.agg zs) _ from .inl ⟨by rfl, fun w h => by rw [HZS9.out]; kernel_rfl⟩) ?_
                try simp only [pu]
                refine tk (i := 1) (v := ?v22) rfl ?y22 ?r22
                case y22 => (intro w hSw; (try dsimp only at hSw); have q9 := KEI.out w hSw; go_simp; (try with_reducible rfl))
                try simp only [pu]
                refine wpAnyH_ready (rs := [2]) (by kernel_rfl) (by simp) ?_
                refine AllReadyH.cons (i := 2) rfl (fun K2 hK2 => ?_) AllReadyH.nil
                rw [if_pos (by rfl)]
                refine wp_store_row 26 _ _ rfl w.heap.size zs rfl rfl 26 _ (show w8.drew.heap[w.heap.size]? = _ from RZ8.out) Izs.out (by rw [Zzs.out]; rfl) Ozs.out ?_
                obtain ⟨w716, hw716⟩ : ∃ x, w8.drew.setRow w.heap.size zs = x := ⟨_, rfl⟩
                obtain ⟨Kw716, Tw716_0, fw716⟩ := st_row ((But.refl (· = w.heap.size) w8).drew) hw716 (fun _ => rfl) (show w8.drew.heap[w.heap.size]? = _ from RZ8.out)
                have Kw716 := Lib.hid Kw716
                have Tw716_0 := Lib.hid Tw716_0
                clear fw716
                rw [hw716]
                clear hw716
                refine hK2.out _ _ Kw716.out (fun hHeld2 => ?_)
                clear hK2 K2
                try simp only [pu]
                refine tk (i := 3) (v := ?v23) rfl ?y23 ?r23
                case y23 => (intro w hSw; (try dsimp only at hSw); go_simp; (try with_reducible rfl))
                try simp only [pu]
                refine wpAnyH_done (by kernel_rfl) ?_ _
                go_wp2
                refine bodyPost_ret (v := .tuple #[.agg zs, errV a 3]) (results_row_tmp rfl _ _ w.heap.size 26 zs (0, 0) _ rfl Tw716_0.out Tryz.underlying26 rfl Izs.out _ rfl) rfl ⟨.inr ⟨fun hk => H8.out (by have := hk.1; rw [HDE.out] at this; exact (congrArg (stS S e.2) HM.out.1).trans this), by rw [← HZS9.out]⟩, But.to_below Kw716.out B8.out.size (fun k hk q => by omega) |> (B8.out.trans ·)⟩

      · have HM : Hid (6 = min e.1 6 ∧ 6 < e.1) := Lib.hid ⟨by omega, by omega⟩
        go_wp2_with fail
        refine HV2.out.mono ?_
        rintro ev w6 ⟨rfl, hr6, b6⟩
        have HR6 := Lib.hid hr6
        have B6 : Hid (Below p wv w6) := Lib.hid (HBW.out.trans (b6.to_below (Nat.le_of_lt hpw) (fun k hk q => by omega)))
        have R6 : Hid (w6.heap[sb]? = some (.cells #[.int .i64 0, .slice (some ⟨G, 0, none⟩) 67 67, .slice none 0 0] 26 (0, 0))) := Lib.hid ((b6.same _ (by omega) (by omega)).trans RQr.out)
        have RG6 := Lib.hid ((b6.same _ (by omega) (by omega)).trans RG.out)
        have h6s : Hid (sb < w6.heap.size) := Lib.hid (Array.getElem?_eq_some_iff.1 R6.out).1
        clear hr6 b6 hpw HBW RQr
        go_upto_region 11 with fail
        go_loopw [34] (fun c wr => ∃ (j : Nat) (v : Value), j ≤ 6 ∧ c = .int .u64 j ∧ Hid (wr.ownsRow w6.heap.size 23 32 v j (hashCells ((List.range j).map (hsS S e.2)))) ∧ Hid (wr.heap[sb]? = some (.cells #[.int .i64 0, .slice (some ⟨G, 0, none⟩) 67 67, v] 26 (0, 0))) ∧ Hid (RSt p wr S (stS S e.2 j)) ∧ Hid (But (fun b => b = p ∨ b = sb) w6 wr)) (fun c _ => 6 - (intOf c).toNat)
        case atStart => exact ⟨0, .slice none 0 0, Nat.zero_le _, rfl, Lib.hid (World.ownsRow_nil _ _ _ _), R6, HR6, Lib.hid (But.refl _ _)⟩
        case round =>
          obtain ⟨j, v, hj, rfl, OWN, HR, HST, HB⟩ := hrel
          have hsr := HB.out.size
          obtain ⟨ho1, ho2, ho3, ho4⟩ := HO.out
          have hs6 := h6s.out
          have hpw : p < wr.heap.size := HST.out.lt
          have HLT := Lib.hid (fun k q => (OWN.out.lt k q).1)
          have HNB : Hid (v.ownBlock ≠ some sb) := Lib.hid (fun q => by have := HLT.out _ q; omega)
          have HNP : Hid (v.ownBlock ≠ some p) := Lib.hid (fun q => by have := HLT.out _ q; omega)
          have HBW : Hid (Below p wv wr) := Lib.hid (B6.out.trans (HB.out.to_below (by omega) (fun k hk y => by rcases y with y | y <;> omega)))
          by_cases hlt : j < 6
          · have HPO : Hid (∀ k, k < w6.heap.size → (k = p ∨ k = sb ∨ v.ownBlock = some k) → (k = p ∨ k = sb)) := Lib.hid (fun k hk q => by
              rcases q with q | q | q
              · exact .inl q
              · exact .inr q
              · have := HLT.out k q; omega)
            obtain ⟨vn, evn, Hvn, Zvn, Ivn, Ovn⟩ := row_of (hsS S e.2 j) (hsS_length _ _ _)
            have HH2 : Hid (∀ w', Below p wv w' → RSt p w' S (stS S e.2 j) → Calls Tryz.prog 112 #[.pointer (some ⟨p, 0, none⟩)] w' fun ev w2 => ev = .returned (.agg vn) ∧ RSt p w2 S (stS S e.2 (j + 1)) ∧ But (· = p) w' w2) := Lib.hid (fun w' hb h => by
              have := HHS.out (stS S e.2 j) w' hb h
              rw [show hv (hashS S (stS S e.2 j)).1 = .agg vn from evn] at this; exact this)
            obtain ⟨rv, hrv, hrc⟩ := HST.out.row
            have HRV := Lib.hid hrv
            have HRC := Lib.hid hrc
            have HSN : Hid (∀ (w' : World) (v9 : Value), w'.ownsRow w6.heap.size 23 32 v9 (j + 1) (hashCells ((List.range j).map (hsS S e.2)) ++ hashCells [hsS S e.2 j]) → Hid (w'.ownsRow w6.heap.size 23 32 v9 (j + 1) (hashCells ((List.range (j + 1)).map (hsS S e.2))))) := Lib.hid (fun w' v9 h => Lib.hid (by
              rw [List.range_succ, List.map_append]
              rw [← hashCells_append] at h
              exact h))
            have k0 : (0 : Int) ≤ j := by omega
            have k1 : (j : Int) < 6 := by omega
            clear evn hrv hrc
            go_upto_region 12 with fail
            refine wp_region_held_drew (S := But (fun k => k = p ∨ k = sb ∨ v.ownBlock = some k) wr) (by kernel_rfl) (But.refl _ _).drew (fun hHeld => ?_)
            refine tk (i := 0) (v := ?v27) rfl ?y27 ?r27
            case y27 => (intro w hSw; (try dsimp only at hSw); go_simp; (try with_reducible rfl))
            try simp only [pu]
            refine tk (i := 2) (v := ?v28) rfl ?y28 ?r28
            case y28 => (intro w hSw; (try dsimp only at hSw); go_simp; (try with_reducible rfl))
            try simp only [pu]
            refine wpAnyH_ready (rs := [1, 3]) (by kernel_rfl) (by simp) ?_
            refine AllReadyH.cons (i := 1) rfl (fun K2 hK2 => ?_) ?more29
            · skip
              have z0 : wr.drew.cell? ⟨sb, 2, none⟩ = some v := (cell_of_row wr.drew sb 2 _ 26 (0, 0) (show wr.drew.heap[sb]? = _ from HR.out)).trans rfl
              go_simp
              refine hK2.out _ _ ((But.refl (fun k => k = p ∨ k = sb ∨ v.ownBlock = some k) wr).drew) (fun hHeld2 => ?_)
              clear hK2 K2
              try simp only [pu]
              refine wpAnyH_ready (rs := [3]) (by kernel_rfl) (by simp) ?_
              refine AllReadyH.cons (i := 3) rfl (fun K2 hK2 => ?_) AllReadyH.nil
              go_simp
              go_at_call 112
              refine (HH2.out wr.drew (HBW.out.trans (But.to_below ((But.refl (fun k => k = p ∨ k = sb ∨ v.ownBlock = some k) wr).drew) (Nat.le_of_lt hpw) (fun k hk y => by rcases y with y | y | y <;> first | omega | (have := HLT.out k y; omega)))) (HRC.out wr.drew (show wr.drew.heap[p]? = _ from HRV.out))).mono ?_
              rintro ev w718 ⟨rfl, hR9, b9⟩
              try go_wp2_with fail
              have Kw718 := Lib.hid (But.step ((But.refl (fun k => k = p ∨ k = sb ∨ v.ownBlock = some k) wr).drew) b9 (fun k _ y => .inl y))
              have Tw718_0 := Lib.hid ((b9.same _ (Array.getElem?_eq_some_iff.1 (show wr.drew.heap[sb]? = _ from HR.out)).1 (by omega)).trans (show wr.drew.heap[sb]? = _ from HR.out))
              obtain ⟨rv9, hrv9, hrc9⟩ := RSt.row (show RSt p w718 S _ from hR9)
              have Tw718_p := Lib.hid hrv9
              have HRC9 := Lib.hid hrc9
              have Ow718 := Lib.hid (own_keep_ne (b := p) (fun k x hk hx => (b9.same k (Array.getElem?_eq_some_iff.1 hx).1 hk).trans hx) (own_drew OWN.out) HNP.out)
              clear hR9 b9 hrv9 hrc9
              refine hK2.out _ _ Kw718.out (fun hHeld2 => ?_)
              clear hK2 K2
              try simp only [pu]
              refine wpAnyH_ready (rs := [4]) (by kernel_rfl) (by simp) ?_
              refine AllReadyH.cons (i := 4) rfl (fun K2 hK2 => ?_) AllReadyH.nil
              rw [if_pos (by rfl)]
              refine wp_buildSlice_row 24 23 _ vn _ 32 rfl rfl Tryz.underlying24 Tryz.sizeOf23 Tryz.zeroValue23 rfl Zvn.out (by omega) (by omega) ?_
              obtain ⟨w719, hw719⟩ : ∃ x, (w718.alloc (.cells vn 23)) = x := ⟨_, rfl⟩
              obtain ⟨g719, hg719⟩ : ∃ x, w718.heap.size = x := ⟨_, rfl⟩
              obtain ⟨Kw719, Tw719_2, qw719, fw719⟩ := st_alloc Kw718.out hw719 hg719
              rw [hw719, hg719]; clear hw719 hg719
              have Kw719 := Lib.hid Kw719
              have Tw719_2 := Lib.hid Tw719_2
              obtain ⟨Tw719_0, dw719_0⟩ := fw719 _ _ Tw718_0.out
              have Tw719_0 := Lib.hid Tw719_0
              obtain ⟨Tw719_1, dw719_1⟩ := fw719 _ _ Tw718_p.out
              have Tw719_1 := Lib.hid Tw719_1
              have Ow719 := Lib.hid (own_keep (fun k x h => (fw719 k x h).1) Ow718.out)
              clear fw719
              refine hK2.out _ _ Kw719.out (fun hHeld2 => ?_)
              clear hK2 K2
              try simp only [pu]
              refine wpAnyH_ready (rs := [5]) (by kernel_rfl) (by simp) ?_
              refine AllReadyH.cons (i := 5) rfl (fun K2 hK2 => ?_) AllReadyH.nil
              rw [if_pos (by rfl)]
              refine wp_append_list _ _ 24 rfl w6.heap.size _ 23 i0 _ 32 32 Tryz.underlying24 hi hz0 hz1 hz2 rfl (by decide) v (.slice (some ⟨g719, 0, none⟩) 1 1) j 1 (hashCells ((List.range j).map (hsS S e.2))) (hashCells [(hsS S e.2 j)]) rfl rfl Ow719.out (own_at (hsS S e.2 j) Tw719_2.out Hvn.out Zvn.out) (hashCells_cell _) (by unfold maxLen; omega) (by omega) (by have := (Kw719.out).size; omega) ?_
              intro v9 w720 o9 g9 a9
              obtain ⟨A9, C9, rfl, hC9⟩ := own_shape o9
              obtain ⟨Kw720, fw720⟩ := st_grow Kw719.out g9 (fun k q => .inr (.inr q))
              have Kw720 := Lib.hid Kw720
              have Ow720 := Lib.hid o9
              have Tw720_0 := Lib.hid (fw720 _ _ HNB.out Tw719_0.out)
              have Tw720_1 := Lib.hid (fw720 _ _ HNP.out Tw719_1.out)
              have HNB9 : (Value.slice A9 (j + 1) C9).ownBlock ≠ some sb := by
                rcases a9 with q | q
                · rw [q]; exact HNB.out
                · rw [q]; intro e; injection e with e; have := (Kw719.out).size; omega
              clear fw720 o9 g9 a9
              refine hK2.out _ _ Kw720.out (fun hHeld2 => ?_)
              clear hK2 K2
              try simp only [pu]
              refine tk (i := 6) (v := ?v30) rfl ?y30 ?r30
              case y30 => (intro w hSw; (try dsimp only at hSw); go_simp; (try with_reducible rfl))
              try simp only [pu]
              refine wpAnyH_ready (rs := [7]) (by kernel_rfl) (by simp) ?_
              refine AllReadyH.cons (i := 7) rfl (fun K2 hK2 => ?_) AllReadyH.nil
              have c9 : w720.cell? ⟨sb, 2, none⟩ = some v := (cell_of_row w720 sb 2 _ 26 (0, 0) Tw720_0.out).trans rfl
              have f9 := frozen_of_row w720 sb 2 _ 26 Tw720_0.out
              go_simp
              obtain ⟨w721, hw721⟩ : ∃ x, w720.setCell ⟨sb, 2, none⟩ (Value.slice A9 (j + 1) C9) = x := ⟨_, rfl⟩
              obtain ⟨Kw721, Tw721_0, fw721⟩ := st_cell Kw720.out hw721 (fun _ => .inr (.inl rfl)) Tw720_0.out
              have Kw721 := Lib.hid Kw721
              have Tw721_0 := Lib.hid Tw721_0
              have Tw721_1 := Lib.hid (fw721 _ _ (by omega) Tw720_1.out)
              have Ow721 := Lib.hid (own_keep_ne fw721 Ow720.out HNB9)
              clear fw721
              rw [hw721]
              clear hw721
              refine hK2.out _ _ Kw721.out (fun hHeld2 => ?_)
              clear hK2 K2
              try simp only [pu]
              refine wpAnyH_done (by kernel_rfl) ?_ _
              have KE := Lib.hid Kw721.out
              have TE := Lib.hid Tw721_0.out
              have TR := Lib.hid (HRC9.out _ Tw721_1.out)
              have OE := Lib.hid Ow721.out
              go_wp2
              go_roundw
              case rel => exact ⟨j + 1, _, by omega, by go_num, HSN.out _ _ OE.out, Lib.hid TE.out, TR, Lib.hid (HB.out.step KE.out (fun k hk q => HPO.out k hk q))⟩
              case measure => simp [intOf]; omega

            refine AllReadyH.cons (i := 3) rfl (fun K2 hK2 => ?_) ?more31
            · skip
              go_simp
              go_at_call 112
              refine (HH2.out wr.drew (HBW.out.trans (But.to_below ((But.refl (fun k => k = p ∨ k = sb ∨ v.ownBlock = some k) wr).drew) (Nat.le_of_lt hpw) (fun k hk y => by rcases y with y | y | y <;> first | omega | (have := HLT.out k y; omega)))) (HRC.out wr.drew (show wr.drew.heap[p]? = _ from HRV.out))).mono ?_
              rintro ev w722 ⟨rfl, hR9, b9⟩
              try go_wp2_with fail
              have Kw722 := Lib.hid (But.step ((But.refl (fun k => k = p ∨ k = sb ∨ v.ownBlock = some k) wr).drew) b9 (fun k _ y => .inl y))
              have Tw722_0 := Lib.hid ((b9.same _ (Array.getElem?_eq_some_iff.1 (show wr.drew.heap[sb]? = _ from HR.out)).1 (by omega)).trans (show wr.drew.heap[sb]? = _ from HR.out))
              obtain ⟨rv9, hrv9, hrc9⟩ := RSt.row (show RSt p w722 S _ from hR9)
              have Tw722_p := Lib.hid hrv9
              have HRC9 := Lib.hid hrc9
              have Ow722 := Lib.hid (own_keep_ne (b := p) (fun k x hk hx => (b9.same k (Array.getElem?_eq_some_iff.1 hx).1 hk).trans hx) (own_drew OWN.out) HNP.out)
              clear hR9 b9 hrv9 hrc9
              refine hK2.out _ _ Kw722.out (fun hHeld2 => ?_)
              clear hK2 K2
              try simp only [pu]
              refine wpAnyH_ready (rs := [1, 4]) (by kernel_rfl) (by simp) ?_
              refine AllReadyH.cons (i := 1) rfl (fun K2 hK2 => ?_) ?more32
              · skip
                have z0 : w722.cell? ⟨sb, 2, none⟩ = some v := (cell_of_row w722 sb 2 _ 26 (0, 0) Tw722_0.out).trans rfl
                go_simp
                refine hK2.out _ _ Kw722.out (fun hHeld2 => ?_)
                clear hK2 K2
                try simp only [pu]
                refine wpAnyH_ready (rs := [4]) (by kernel_rfl) (by simp) ?_
                refine AllReadyH.cons (i := 4) rfl (fun K2 hK2 => ?_) AllReadyH.nil
                rw [if_pos (by rfl)]
                refine wp_buildSlice_row 24 23 _ vn _ 32 rfl rfl Tryz.underlying24 Tryz.sizeOf23 Tryz.zeroValue23 rfl Zvn.out (by omega) (by omega) ?_
                obtain ⟨w723, hw723⟩ : ∃ x, (w722.alloc (.cells vn 23)) = x := ⟨_, rfl⟩
                obtain ⟨g723, hg723⟩ : ∃ x, w722.heap.size = x := ⟨_, rfl⟩
                obtain ⟨Kw723, Tw723_2, qw723, fw723⟩ := st_alloc Kw722.out hw723 hg723
                rw [hw723, hg723]; clear hw723 hg723
                have Kw723 := Lib.hid Kw723
                have Tw723_2 := Lib.hid Tw723_2
                obtain ⟨Tw723_0, dw723_0⟩ := fw723 _ _ Tw722_0.out
                have Tw723_0 := Lib.hid Tw723_0
                obtain ⟨Tw723_1, dw723_1⟩ := fw723 _ _ Tw722_p.out
                have Tw723_1 := Lib.hid Tw723_1
                have Ow723 := Lib.hid (own_keep (fun k x h => (fw723 k x h).1) Ow722.out)
                clear fw723
                refine hK2.out _ _ Kw723.out (fun hHeld2 => ?_)
                clear hK2 K2
                try simp only [pu]
                refine wpAnyH_ready (rs := [5]) (by kernel_rfl) (by simp) ?_
                refine AllReadyH.cons (i := 5) rfl (fun K2 hK2 => ?_) AllReadyH.nil
                rw [if_pos (by rfl)]
                refine wp_append_list _ _ 24 rfl w6.heap.size _ 23 i0 _ 32 32 Tryz.underlying24 hi hz0 hz1 hz2 rfl (by decide) v (.slice (some ⟨g723, 0, none⟩) 1 1) j 1 (hashCells ((List.range j).map (hsS S e.2))) (hashCells [(hsS S e.2 j)]) rfl rfl Ow723.out (own_at (hsS S e.2 j) Tw723_2.out Hvn.out Zvn.out) (hashCells_cell _) (by unfold maxLen; omega) (by omega) (by have := (Kw723.out).size; omega) ?_
                intro v9 w724 o9 g9 a9
                obtain ⟨A9, C9, rfl, hC9⟩ := own_shape o9
                obtain ⟨Kw724, fw724⟩ := st_grow Kw723.out g9 (fun k q => .inr (.inr q))
                have Kw724 := Lib.hid Kw724
                have Ow724 := Lib.hid o9
                have Tw724_0 := Lib.hid (fw724 _ _ HNB.out Tw723_0.out)
                have Tw724_1 := Lib.hid (fw724 _ _ HNP.out Tw723_1.out)
                have HNB9 : (Value.slice A9 (j + 1) C9).ownBlock ≠ some sb := by
                  rcases a9 with q | q
                  · rw [q]; exact HNB.out
                  · rw [q]; intro e; injection e with e; have := (Kw723.out).size; omega
                clear fw724 o9 g9 a9
                refine hK2.out _ _ Kw724.out (fun hHeld2 => ?_)
                clear hK2 K2
                try simp only [pu]
                refine tk (i := 6) (v := ?v33) rfl ?y33 ?r33
                case y33 => (intro w hSw; (try dsimp only at hSw); go_simp; (try with_reducible rfl))
                try simp only [pu]
                refine wpAnyH_ready (rs := [7]) (by kernel_rfl) (by simp) ?_
                refine AllReadyH.cons (i := 7) rfl (fun K2 hK2 => ?_) AllReadyH.nil
                have c9 : w724.cell? ⟨sb, 2, none⟩ = some v := (cell_of_row w724 sb 2 _ 26 (0, 0) Tw724_0.out).trans rfl
                have f9 := frozen_of_row w724 sb 2 _ 26 Tw724_0.out
                go_simp
                obtain ⟨w725, hw725⟩ : ∃ x, w724.setCell ⟨sb, 2, none⟩ (Value.slice A9 (j + 1) C9) = x := ⟨_, rfl⟩
                obtain ⟨Kw725, Tw725_0, fw725⟩ := st_cell Kw724.out hw725 (fun _ => .inr (.inl rfl)) Tw724_0.out
                have Kw725 := Lib.hid Kw725
                have Tw725_0 := Lib.hid Tw725_0
                have Tw725_1 := Lib.hid (fw725 _ _ (by omega) Tw724_1.out)
                have Ow725 := Lib.hid (own_keep_ne fw725 Ow724.out HNB9)
                clear fw725
                rw [hw725]
                clear hw725
                refine hK2.out _ _ Kw725.out (fun hHeld2 => ?_)
                clear hK2 K2
                try simp only [pu]
                refine wpAnyH_done (by kernel_rfl) ?_ _
                have KE := Lib.hid Kw725.out
                have TE := Lib.hid Tw725_0.out
                have TR := Lib.hid (HRC9.out _ Tw725_1.out)
                have OE := Lib.hid Ow725.out
                go_wp2
                go_roundw
                case rel => exact ⟨j + 1, _, by omega, by go_num, HSN.out _ _ OE.out, Lib.hid TE.out, TR, Lib.hid (HB.out.step KE.out (fun k hk q => HPO.out k hk q))⟩
                case measure => simp [intOf]; omega
              
              refine AllReadyH.cons (i := 4) rfl (fun K2 hK2 => ?_) ?more34
              · skip
                rw [if_pos (by rfl)]
                refine wp_buildSlice_row 24 23 _ vn _ 32 rfl rfl Tryz.underlying24 Tryz.sizeOf23 Tryz.zeroValue23 rfl Zvn.out (by omega) (by omega) ?_
                obtain ⟨w726, hw726⟩ : ∃ x, (w722.alloc (.cells vn 23)) = x := ⟨_, rfl⟩
                obtain ⟨g726, hg726⟩ : ∃ x, w722.heap.size = x := ⟨_, rfl⟩
                obtain ⟨Kw726, Tw726_2, qw726, fw726⟩ := st_alloc Kw722.out hw726 hg726
                rw [hw726, hg726]; clear hw726 hg726
                have Kw726 := Lib.hid Kw726
                have Tw726_2 := Lib.hid Tw726_2
                obtain ⟨Tw726_0, dw726_0⟩ := fw726 _ _ Tw722_0.out
                have Tw726_0 := Lib.hid Tw726_0
                obtain ⟨Tw726_1, dw726_1⟩ := fw726 _ _ Tw722_p.out
                have Tw726_1 := Lib.hid Tw726_1
                have Ow726 := Lib.hid (own_keep (fun k x h => (fw726 k x h).1) Ow722.out)
                clear fw726
                refine hK2.out _ _ Kw726.out (fun hHeld2 => ?_)
                clear hK2 K2
                try simp only [pu]
                refine wpAnyH_ready (rs := [1]) (by kernel_rfl) (by simp) ?_
                refine AllReadyH.cons (i := 1) rfl (fun K2 hK2 => ?_) AllReadyH.nil
                have z0 : w726.cell? ⟨sb, 2, none⟩ = some v := (cell_of_row w726 sb 2 _ 26 (0, 0) Tw726_0.out).trans rfl
                go_simp
                refine hK2.out _ _ Kw726.out (fun hHeld2 => ?_)
                clear hK2 K2
                try simp only [pu]
                refine wpAnyH_ready (rs := [5]) (by kernel_rfl) (by simp) ?_
                refine AllReadyH.cons (i := 5) rfl (fun K2 hK2 => ?_) AllReadyH.nil
                rw [if_pos (by rfl)]
                refine wp_append_list _ _ 24 rfl w6.heap.size _ 23 i0 _ 32 32 Tryz.underlying24 hi hz0 hz1 hz2 rfl (by decide) v (.slice (some ⟨g726, 0, none⟩) 1 1) j 1 (hashCells ((List.range j).map (hsS S e.2))) (hashCells [(hsS S e.2 j)]) rfl rfl Ow726.out (own_at (hsS S e.2 j) Tw726_2.out Hvn.out Zvn.out) (hashCells_cell _) (by unfold maxLen; omega) (by omega) (by have := (Kw726.out).size; omega) ?_
                intro v9 w727 o9 g9 a9
                obtain ⟨A9, C9, rfl, hC9⟩ := own_shape o9
                obtain ⟨Kw727, fw727⟩ := st_grow Kw726.out g9 (fun k q => .inr (.inr q))
                have Kw727 := Lib.hid Kw727
                have Ow727 := Lib.hid o9
                have Tw727_0 := Lib.hid (fw727 _ _ HNB.out Tw726_0.out)
                have Tw727_1 := Lib.hid (fw727 _ _ HNP.out Tw726_1.out)
                have HNB9 : (Value.slice A9 (j + 1) C9).ownBlock ≠ some sb := by
                  rcases a9 with q | q
                  · rw [q]; exact HNB.out
                  · rw [q]; intro e; injection e with e; have := (Kw726.out).size; omega
                clear fw727 o9 g9 a9
                refine hK2.out _ _ Kw727.out (fun hHeld2 => ?_)
                clear hK2 K2
                try simp only [pu]
                refine tk (i := 6) (v := ?v35) rfl ?y35 ?r35
                case y35 => (intro w hSw; (try dsimp only at hSw); go_simp; (try with_reducible rfl))
                try simp only [pu]
                refine wpAnyH_ready (rs := [7]) (by kernel_rfl) (by simp) ?_
                refine AllReadyH.cons (i := 7) rfl (fun K2 hK2 => ?_) AllReadyH.nil
                have c9 : w727.cell? ⟨sb, 2, none⟩ = some v := (cell_of_row w727 sb 2 _ 26 (0, 0) Tw727_0.out).trans rfl
                have f9 := frozen_of_row w727 sb 2 _ 26 Tw727_0.out
                go_simp
                obtain ⟨w728, hw728⟩ : ∃ x, w727.setCell ⟨sb, 2, none⟩ (Value.slice A9 (j + 1) C9) = x := ⟨_, rfl⟩
                obtain ⟨Kw728, Tw728_0, fw728⟩ := st_cell Kw727.out hw728 (fun _ => .inr (.inl rfl)) Tw727_0.out
                have Kw728 := Lib.hid Kw728
                have Tw728_0 := Lib.hid Tw728_0
                have Tw728_1 := Lib.hid (fw728 _ _ (by omega) Tw727_1.out)
                have Ow728 := Lib.hid (own_keep_ne fw728 Ow727.out HNB9)
                clear fw728
                rw [hw728]
                clear hw728
                refine hK2.out _ _ Kw728.out (fun hHeld2 => ?_)
                clear hK2 K2
                try simp only [pu]
                refine wpAnyH_done (by kernel_rfl) ?_ _
                have KE := Lib.hid Kw728.out
                have TE := Lib.hid Tw728_0.out
                have TR := Lib.hid (HRC9.out _ Tw728_1.out)
                have OE := Lib.hid Ow728.out
                go_wp2
                go_roundw
                case rel => exact ⟨j + 1, _, by omega, by go_num, HSN.out _ _ OE.out, Lib.hid TE.out, TR, Lib.hid (HB.out.step KE.out (fun k hk q => HPO.out k hk q))⟩
                case measure => simp [intOf]; omega
              
              exact AllReadyH.nil

            exact AllReadyH.nil
          · obtain rfl : j = 6 := by omega
            have RGr := Lib.hid ((HB.out.same _ (by omega) (by omega)).trans RG6.out)
            clear hlt hj
            by_cases hx : d.1 ≤ 64
            · 
              have zc : wr.cell? ⟨sb, 0, none⟩ = some (.int .i64 0) := (cell_of_row wr sb 0 _ 26 (0, 0) HR.out).trans rfl
              have zf := frozen_of_row wr sb 0 _ 26 HR.out
              have ew : IntKind.i64.wrap (d.1 : Int) = (d.1 : Int) := IntWalk.i64_in _ (by omega)
              go_upto_region 15 with fail
              obtain ⟨w7, hw7⟩ : ∃ y, wr.setCell ⟨sb, 0, none⟩ (.int .i64 (d.1 : Int)) = y := ⟨_, rfl⟩
              have B7 : Hid (But (· = sb) wr w7) := Lib.hid (by rw [← hw7]; exact (But.refl _ _).setCell _ _ _ (fun _ => rfl))
              have R7 : Hid (w7.heap[sb]? = some (.cells #[.int .i64 (d.1 : Int), .slice (some ⟨G, 0, none⟩) 67 67, v] 26 (0, 0))) := Lib.hid (by rw [← hw7]; exact heap_setCell_same wr sb 0 _ 26 _ HR.out)
              rw [hw7]
              clear hw7 zc zf ew
              obtain ⟨rv, hrv, hrc⟩ := HST.out.row
              have HST7 : Hid (RSt p w7 S (stS S e.2 (6))) := Lib.hid (hrc _ ((B7.out.same _ hpw (by omega)).trans hrv))
              clear hrv hrc
              have BP7 : Hid (Below p wv w7) := Lib.hid (HBW.out.trans (B7.out.to_below (Nat.le_of_lt hpw) (fun k hk q => by omega)))
              have RG7 := Lib.hid ((B7.out.same _ (by omega) (by omega)).trans RGr.out)
              have OWN7 : Hid (w7.ownsRow w6.heap.size 23 32 v (6) (hashCells ((List.range (6)).map (hsS S e.2)))) := Lib.hid (own_keep_ne (b := sb) (fun k x hk hx => (B7.out.same k (Array.getElem?_eq_some_iff.1 hx).1 hk).trans hx) OWN.out HNB.out)
              go_wp2_with fail
              refine (HES.out _ w7 BP7.out HST7.out).mono ?_
              rintro ev w8 ⟨h8, b8⟩
              have BP8 : Hid (Below p wv w8) := Lib.hid (BP7.out.trans (b8.mono (by have := BP7.out.size; have := HP.out.1; omega)))
              have B8 : Hid (Below w.heap.size w w8) := Lib.hid (HBW0.out w8 BP8.out)
              rcases h8 with ⟨h8, rfl⟩ | ⟨h8, q, rfl⟩
              · have fm9 : decide ((6 : Int) < (e.1 : Int)) = true := by simp; exact_mod_cast HM.out.2
                clear h8 b8
                go_wp2_with fail
                have RZ8 : Hid (w8.heap[w.heap.size]? = some (.cells #[.int .i64 0, .slice none 0 0, .slice none 0 0] 26 (0, 0))) := Lib.hid ((BP8.out.block _ HO.out.1).trans RZ.out)
                have KEI : Hid (∀ w', But (· = w.heap.size) w8 w' → w'.cell? ⟨4, 0, none⟩ = some (errV a 3)) := Lib.hid (fun w' hw => hw.cell ((HE.out.step B8.out).laid.e3) (fun e => by have := HG3.out; omega))
                unfold errV at KEI
                have hs8 := B8.out.size
                go_upto_region 16 with fail
                refine wp_region_held_drew (S := But (· = w.heap.size) w8) (by kernel_rfl) (But.refl _ _).drew (fun hHeld => ?_)
                refine tw (i := 0) rfl (show YieldsIf _ _ _ _ (.agg zs) _ from .inl ⟨by rfl, fun w h => by rw [HZS9.out]; kernel_rfl⟩) ?_
                try simp only [pu]
                refine tk (i := 1) (v := ?v40) rfl ?y40 ?r40
                case y40 => (intro w hSw; (try dsimp only at hSw); have q9 := KEI.out w hSw; go_simp; (try with_reducible rfl))
                try simp only [pu]
                refine wpAnyH_ready (rs := [2]) (by kernel_rfl) (by simp) ?_
                refine AllReadyH.cons (i := 2) rfl (fun K2 hK2 => ?_) AllReadyH.nil
                rw [if_pos (by rfl)]
                refine wp_store_row 26 _ _ rfl w.heap.size zs rfl rfl 26 _ (show w8.drew.heap[w.heap.size]? = _ from RZ8.out) Izs.out (by rw [Zzs.out]; rfl) Ozs.out ?_
                obtain ⟨w730, hw730⟩ : ∃ x, w8.drew.setRow w.heap.size zs = x := ⟨_, rfl⟩
                obtain ⟨Kw730, Tw730_0, fw730⟩ := st_row ((But.refl (· = w.heap.size) w8).drew) hw730 (fun _ => rfl) (show w8.drew.heap[w.heap.size]? = _ from RZ8.out)
                have Kw730 := Lib.hid Kw730
                have Tw730_0 := Lib.hid Tw730_0
                clear fw730
                rw [hw730]
                clear hw730
                refine hK2.out _ _ Kw730.out (fun hHeld2 => ?_)
                clear hK2 K2
                try simp only [pu]
                refine tk (i := 3) (v := ?v41) rfl ?y41 ?r41
                case y41 => (intro w hSw; (try dsimp only at hSw); go_simp; (try with_reducible rfl))
                try simp only [pu]
                refine wpAnyH_done (by kernel_rfl) ?_ _
                go_wp2
                refine bodyPost_ret (v := .tuple #[.agg zs, errV a 3]) (results_row_tmp rfl _ _ w.heap.size 26 zs (0, 0) _ rfl Tw730_0.out Tryz.underlying26 rfl Izs.out _ rfl) rfl ⟨.inr ⟨fun hk => by have := hk.2.1; rw [HDE.out] at this; have := HM.out.2; simp only at *; omega, by rw [← HZS9.out]⟩, But.to_below Kw730.out B8.out.size (fun k hk q => by omega) |> (B8.out.trans ·)⟩

              · have H8 := Lib.hid h8
                clear h8 b8
                go_wp2_with fail
                have RZ8 : Hid (w8.heap[w.heap.size]? = some (.cells #[.int .i64 0, .slice none 0 0, .slice none 0 0] 26 (0, 0))) := Lib.hid ((BP8.out.block _ HO.out.1).trans RZ.out)
                have KEI : Hid (∀ w', But (· = w.heap.size) w8 w' → w'.cell? ⟨4, 0, none⟩ = some (errV a 3)) := Lib.hid (fun w' hw => hw.cell ((HE.out.step B8.out).laid.e3) (fun e => by have := HG3.out; omega))
                unfold errV at KEI
                have hs8 := B8.out.size
                go_upto_region 16 with fail
                refine wp_region_held_drew (S := But (· = w.heap.size) w8) (by kernel_rfl) (But.refl _ _).drew (fun hHeld => ?_)
                refine tw (i := 0) rfl (show YieldsIf _ _ _ _ (.agg zs) _ from .inl ⟨by rfl, fun w h => by rw [HZS9.out]; kernel_rfl⟩) ?_
                try simp only [pu]
                refine tk (i := 1) (v := ?v37) rfl ?y37 ?r37
                case y37 => (intro w hSw; (try dsimp only at hSw); have q9 := KEI.out w hSw; go_simp; (try with_reducible rfl))
                try simp only [pu]
                refine wpAnyH_ready (rs := [2]) (by kernel_rfl) (by simp) ?_
                refine AllReadyH.cons (i := 2) rfl (fun K2 hK2 => ?_) AllReadyH.nil
                rw [if_pos (by rfl)]
                refine wp_store_row 26 _ _ rfl w.heap.size zs rfl rfl 26 _ (show w8.drew.heap[w.heap.size]? = _ from RZ8.out) Izs.out (by rw [Zzs.out]; rfl) Ozs.out ?_
                obtain ⟨w729, hw729⟩ : ∃ x, w8.drew.setRow w.heap.size zs = x := ⟨_, rfl⟩
                obtain ⟨Kw729, Tw729_0, fw729⟩ := st_row ((But.refl (· = w.heap.size) w8).drew) hw729 (fun _ => rfl) (show w8.drew.heap[w.heap.size]? = _ from RZ8.out)
                have Kw729 := Lib.hid Kw729
                have Tw729_0 := Lib.hid Tw729_0
                clear fw729
                rw [hw729]
                clear hw729
                refine hK2.out _ _ Kw729.out (fun hHeld2 => ?_)
                clear hK2 K2
                try simp only [pu]
                refine tk (i := 3) (v := ?v38) rfl ?y38 ?r38
                case y38 => (intro w hSw; (try dsimp only at hSw); go_simp; (try with_reducible rfl))
                try simp only [pu]
                refine wpAnyH_done (by kernel_rfl) ?_ _
                go_wp2
                refine bodyPost_ret (v := .tuple #[.agg zs, errV a 3]) (results_row_tmp rfl _ _ w.heap.size 26 zs (0, 0) _ rfl Tw729_0.out Tryz.underlying26 rfl Izs.out _ rfl) rfl ⟨.inr ⟨fun hk => H8.out (by have := hk.1; rw [HDE.out] at this; exact (congrArg (stS S e.2) HM.out.1).trans this), by rw [← HZS9.out]⟩, But.to_below Kw729.out B8.out.size (fun k hk q => by omega) |> (B8.out.trans ·)⟩

            · 
              have zc : wr.cell? ⟨sb, 0, none⟩ = some (.int .i64 0) := (cell_of_row wr sb 0 _ 26 (0, 0) HR.out).trans rfl
              have zf := frozen_of_row wr sb 0 _ 26 HR.out
              have ew : IntKind.i64.wrap (64 : Int) = (64 : Int) := IntWalk.i64_in _ (by omega)
              go_upto_region 15 with fail
              obtain ⟨w7, hw7⟩ : ∃ y, wr.setCell ⟨sb, 0, none⟩ (.int .i64 (64 : Int)) = y := ⟨_, rfl⟩
              have B7 : Hid (But (· = sb) wr w7) := Lib.hid (by rw [← hw7]; exact (But.refl _ _).setCell _ _ _ (fun _ => rfl))
              have R7 : Hid (w7.heap[sb]? = some (.cells #[.int .i64 (64 : Int), .slice (some ⟨G, 0, none⟩) 67 67, v] 26 (0, 0))) := Lib.hid (by rw [← hw7]; exact heap_setCell_same wr sb 0 _ 26 _ HR.out)
              rw [hw7]
              clear hw7 zc zf ew
              obtain ⟨rv, hrv, hrc⟩ := HST.out.row
              have HST7 : Hid (RSt p w7 S (stS S e.2 (6))) := Lib.hid (hrc _ ((B7.out.same _ hpw (by omega)).trans hrv))
              clear hrv hrc
              have BP7 : Hid (Below p wv w7) := Lib.hid (HBW.out.trans (B7.out.to_below (Nat.le_of_lt hpw) (fun k hk q => by omega)))
              have RG7 := Lib.hid ((B7.out.same _ (by omega) (by omega)).trans RGr.out)
              have OWN7 : Hid (w7.ownsRow w6.heap.size 23 32 v (6) (hashCells ((List.range (6)).map (hsS S e.2)))) := Lib.hid (own_keep_ne (b := sb) (fun k x hk hx => (B7.out.same k (Array.getElem?_eq_some_iff.1 hx).1 hk).trans hx) OWN.out HNB.out)
              go_wp2_with fail
              refine (HES.out _ w7 BP7.out HST7.out).mono ?_
              rintro ev w8 ⟨h8, b8⟩
              have BP8 : Hid (Below p wv w8) := Lib.hid (BP7.out.trans (b8.mono (by have := BP7.out.size; have := HP.out.1; omega)))
              have B8 : Hid (Below w.heap.size w w8) := Lib.hid (HBW0.out w8 BP8.out)
              rcases h8 with ⟨h8, rfl⟩ | ⟨h8, q, rfl⟩
              · have fm9 : decide ((6 : Int) < (e.1 : Int)) = true := by simp; exact_mod_cast HM.out.2
                clear h8 b8
                go_wp2_with fail
                have RZ8 : Hid (w8.heap[w.heap.size]? = some (.cells #[.int .i64 0, .slice none 0 0, .slice none 0 0] 26 (0, 0))) := Lib.hid ((BP8.out.block _ HO.out.1).trans RZ.out)
                have KEI : Hid (∀ w', But (· = w.heap.size) w8 w' → w'.cell? ⟨4, 0, none⟩ = some (errV a 3)) := Lib.hid (fun w' hw => hw.cell ((HE.out.step B8.out).laid.e3) (fun e => by have := HG3.out; omega))
                unfold errV at KEI
                have hs8 := B8.out.size
                go_upto_region 16 with fail
                refine wp_region_held_drew (S := But (· = w.heap.size) w8) (by kernel_rfl) (But.refl _ _).drew (fun hHeld => ?_)
                refine tw (i := 0) rfl (show YieldsIf _ _ _ _ (.agg zs) _ from .inl ⟨by rfl, fun w h => by rw [HZS9.out]; kernel_rfl⟩) ?_
                try simp only [pu]
                refine tk (i := 1) (v := ?v46) rfl ?y46 ?r46
                case y46 => (intro w hSw; (try dsimp only at hSw); have q9 := KEI.out w hSw; go_simp; (try with_reducible rfl))
                try simp only [pu]
                refine wpAnyH_ready (rs := [2]) (by kernel_rfl) (by simp) ?_
                refine AllReadyH.cons (i := 2) rfl (fun K2 hK2 => ?_) AllReadyH.nil
                rw [if_pos (by rfl)]
                refine wp_store_row 26 _ _ rfl w.heap.size zs rfl rfl 26 _ (show w8.drew.heap[w.heap.size]? = _ from RZ8.out) Izs.out (by rw [Zzs.out]; rfl) Ozs.out ?_
                obtain ⟨w732, hw732⟩ : ∃ x, w8.drew.setRow w.heap.size zs = x := ⟨_, rfl⟩
                obtain ⟨Kw732, Tw732_0, fw732⟩ := st_row ((But.refl (· = w.heap.size) w8).drew) hw732 (fun _ => rfl) (show w8.drew.heap[w.heap.size]? = _ from RZ8.out)
                have Kw732 := Lib.hid Kw732
                have Tw732_0 := Lib.hid Tw732_0
                clear fw732
                rw [hw732]
                clear hw732
                refine hK2.out _ _ Kw732.out (fun hHeld2 => ?_)
                clear hK2 K2
                try simp only [pu]
                refine tk (i := 3) (v := ?v47) rfl ?y47 ?r47
                case y47 => (intro w hSw; (try dsimp only at hSw); go_simp; (try with_reducible rfl))
                try simp only [pu]
                refine wpAnyH_done (by kernel_rfl) ?_ _
                go_wp2
                refine bodyPost_ret (v := .tuple #[.agg zs, errV a 3]) (results_row_tmp rfl _ _ w.heap.size 26 zs (0, 0) _ rfl Tw732_0.out Tryz.underlying26 rfl Izs.out _ rfl) rfl ⟨.inr ⟨fun hk => by have := hk.2.1; rw [HDE.out] at this; have := HM.out.2; simp only at *; omega, by rw [← HZS9.out]⟩, But.to_below Kw732.out B8.out.size (fun k hk q => by omega) |> (B8.out.trans ·)⟩

              · have H8 := Lib.hid h8
                clear h8 b8
                go_wp2_with fail
                have RZ8 : Hid (w8.heap[w.heap.size]? = some (.cells #[.int .i64 0, .slice none 0 0, .slice none 0 0] 26 (0, 0))) := Lib.hid ((BP8.out.block _ HO.out.1).trans RZ.out)
                have KEI : Hid (∀ w', But (· = w.heap.size) w8 w' → w'.cell? ⟨4, 0, none⟩ = some (errV a 3)) := Lib.hid (fun w' hw => hw.cell ((HE.out.step B8.out).laid.e3) (fun e => by have := HG3.out; omega))
                unfold errV at KEI
                have hs8 := B8.out.size
                go_upto_region 16 with fail
                refine wp_region_held_drew (S := But (· = w.heap.size) w8) (by kernel_rfl) (But.refl _ _).drew (fun hHeld => ?_)
                refine tw (i := 0) rfl (show YieldsIf _ _ _ _ (.agg zs) _ from .inl ⟨by rfl, fun w h => by rw [HZS9.out]; kernel_rfl⟩) ?_
                try simp only [pu]
                refine tk (i := 1) (v := ?v43) rfl ?y43 ?r43
                case y43 => (intro w hSw; (try dsimp only at hSw); have q9 := KEI.out w hSw; go_simp; (try with_reducible rfl))
                try simp only [pu]
                refine wpAnyH_ready (rs := [2]) (by kernel_rfl) (by simp) ?_
                refine AllReadyH.cons (i := 2) rfl (fun K2 hK2 => ?_) AllReadyH.nil
                rw [if_pos (by rfl)]
                refine wp_store_row 26 _ _ rfl w.heap.size zs rfl rfl 26 _ (show w8.drew.heap[w.heap.size]? = _ from RZ8.out) Izs.out (by rw [Zzs.out]; rfl) Ozs.out ?_
                obtain ⟨w731, hw731⟩ : ∃ x, w8.drew.setRow w.heap.size zs = x := ⟨_, rfl⟩
                obtain ⟨Kw731, Tw731_0, fw731⟩ := st_row ((But.refl (· = w.heap.size) w8).drew) hw731 (fun _ => rfl) (show w8.drew.heap[w.heap.size]? = _ from RZ8.out)
                have Kw731 := Lib.hid Kw731
                have Tw731_0 := Lib.hid Tw731_0
                clear fw731
                rw [hw731]
                clear hw731
                refine hK2.out _ _ Kw731.out (fun hHeld2 => ?_)
                clear hK2 K2
                try simp only [pu]
                refine tk (i := 3) (v := ?v44) rfl ?y44 ?r44
                case y44 => (intro w hSw; (try dsimp only at hSw); go_simp; (try with_reducible rfl))
                try simp only [pu]
                refine wpAnyH_done (by kernel_rfl) ?_ _
                go_wp2
                refine bodyPost_ret (v := .tuple #[.agg zs, errV a 3]) (results_row_tmp rfl _ _ w.heap.size 26 zs (0, 0) _ rfl Tw731_0.out Tryz.underlying26 rfl Izs.out _ rfl) rfl ⟨.inr ⟨fun hk => H8.out (by have := hk.1; rw [HDE.out] at this; exact (congrArg (stS S e.2) HM.out.1).trans this), by rw [← HZS9.out]⟩, But.to_below Kw731.out B8.out.size (fun k hk q => by omega) |> (B8.out.trans ·)⟩

end Go.Proofs.YtnpblpbcchminaaGreatDoor
