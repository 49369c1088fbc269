import Derived.Test.YtaekabhcgdjhfaaDoorTexts
import Derived.Deep.Strs
import Derived.Deep.Slices
import Derived.SizedLaws
import Derived.Test.YtaekabhcgdjhfaaDoorForgeLives
import Derived.Test.YtaekabhcgdjhfaaDoorBeyond
/- Arguments as the reader reads them: lists of texts; a stretch. -/
namespace Go.Proofs.YtaekabhcgdjhfaaDoor
open Go.ChangeShapes Go.WideShapes Go.ChangeAt Go.RowKit Go.Deep
set_option linter.unusedVariables false
section
variable {H : Type} {enc : TypeId × Value → H} {W : World} {base : Nat} {spare : Nat → Bool} {held : Bool}
theorem weightsAll_mem {P : Program} {e : TypeId} : ∀ {ds : List (DataW H)} {d : DataW H}, d ∈ ds → ∀ z ∈ d.weights P e, z ∈ DataW.weightsAll P e ds
  | x :: r, d, hd, z, hz => by
    simp only [DataW.weightsAll, List.mem_append]
    rcases List.mem_cons.1 hd with rfl | hd
    · exact .inl hz
    · exact .inr (weightsAll_mem hd z hz)
  | [], d, hd, z, hz => by simp at hd
theorem texts_arg {n : Nat} {cs : Array Value} {x : DataW H × List MemPlace}
    (h : DataW.trod enc Tryd.prog W base spare held n 22 cs.toList = some x) (hw : ∀ z ∈ x.1.weights Tryd.prog 22, z ≤ reachBytes) :
    ∃ A n c l, cs = #[.slice A n c] ∧ SIn W A n c l := by
  have hr := reachBytes_lt
  have c1 : Tryd.prog.cellsOf 9 = 1 := by kernel_rfl
  rcases open_strings Tryd.underlying22 Tryd.underlying9 c1 h with ⟨hcs, hx⟩ | ⟨a, len, cap, ss, hcs, _, hl, hm, hz, hx, hcell, hsz⟩
  · refine ⟨none, 0, 0, [], ?_, rfl, Nat.le_refl _, by omega, by simp, by omega, .inl rfl⟩
    cases cs; simp at hcs; rw [hcs]
  · subst hx
    have hb : Tryd.prog.bytesOf 9 = 16 := by kernel_rfl
    have hlen : (ss.take len).length = len := by rw [List.length_take]; split at hz <;> omega
    have h1 : ∀ z ∈ (DataW.slice (strs (H := H) (ss.take len)) (strs (ss.drop len))).weights Tryd.prog 22, z ≤ reachBytes := hw
    simp only [DataW.weights, Tryd.underlying22, List.mem_cons, List.mem_append] at h1
    have h2 := h1 _ (.inl rfl)
    rw [hb] at h2
    have h3 : len ≤ 140737488355328 := by simp only [strs, List.length_map] at h2; rw [hlen] at h2; omega
    refine ⟨some a, len, cap, ss.take len, ?_, hlen, hl, by unfold maxLen at hm; omega, ?_, h3, ?_⟩
    · cases cs; simp at hcs; rw [hcs]
    · intro s hs
      have := h1 s.size (.inr (.inl (weightsAll_mem (d := .lit (.string s.data.toList)) (by simp only [strs, List.mem_map]; exact ⟨s, hs, rfl⟩) _ (by simp [DataW.weights]))))
      omega
    · by_cases h0 : ss.take len = []
      · exact .inl h0
      · right
        obtain ⟨b, o, sp⟩ := a
        have hpos : 0 < (ss.take len).length := List.length_pos_iff.2 h0
        have hcl : ∀ j u, ((ss.take len).map Value.string)[j]? = some u → W.cell? ((⟨b, o, sp⟩ : Addr).add j) = some u := fun j u hu => by
          have hj := (List.getElem?_eq_some_iff.1 hu).1
          rw [List.length_map, hlen] at hj
          have hjs : j < ss.length := by split at hz <;> omega
          rw [hcell j hjs]
          rw [List.getElem?_map, List.getElem?_take_of_lt hj, List.getElem?_eq_getElem hjs] at hu
          rw [List.getD_eq_getElem?_getD, List.getElem?_eq_getElem hjs]; simpa using hu
        obtain ⟨u, hu⟩ : ∃ u, ((ss.take len).map Value.string)[0]? = some u := ⟨_, List.getElem?_eq_getElem (by rw [List.length_map]; omega)⟩
        have hspot : sp = none := by simpa [Addr.add] using World.cell?_spot (hcl 0 u hu)
        subst hspot
        exact ⟨b, o, rfl, fun j v hj => by rw [← Addr.add_mid]; exact hcl j v hj⟩
theorem pair_open {P : Program} {t : TypeId} {f0 f1 : Field} {n : Nat} {cs : List Value} {x : DataW H × List MemPlace} (ht : P.underlying t = some (.struct #[f0, f1])) (o0 : f0.offset = 0) (o1 : f1.offset = 1)
    (hc : P.cellsOf t = 2) (c0 : P.cellsOf f0.type = 1) (c1 : P.cellsOf f1.type = 1) (s0 : P.underlying f0.type = some (.int .u64)) (s1 : P.underlying f1.type = some (.int .u64))
    (h : DataW.trod enc P W base spare held n t cs = some x) : ∃ b e, cs = [.int .u64 b, .int .u64 e] ∧ 0 ≤ b ∧ b < 18446744073709551616 ∧ 0 ≤ e ∧ e < 18446744073709551616 := by
  obtain ⟨y0, y1, m, hx0, hl, h0, h1⟩ := trod_struct2 ht h
  rw [hc] at hl
  rw [o0, c0] at h0
  rw [o1, c1] at h1
  match cs, hl with
  | [x0, x1], _ =>
    obtain ⟨b, e0, _, hw0⟩ := DataW.trod_int s0 h0
    obtain ⟨e, e1, _, hw1⟩ := DataW.trod_int s1 h1
    simp at e0 e1
    subst e0 e1
    have q0 := wf_u64 hw0
    have q1 := wf_u64 hw1
    exact ⟨b, e, rfl, q0.1, q0.2, q1.1, q1.2⟩
theorem span_arg {n : Nat} {cs : Array Value} {x : DataW H × List MemPlace} (h : DataW.trod enc Tryd.prog W base spare held n 82 cs.toList = some x) :
    ∃ b e, cs = #[.int .u64 b, .int .u64 e] ∧ 0 ≤ b ∧ b < 18446744073709551616 ∧ 0 ≤ e ∧ e < 18446744073709551616 := by
  obtain ⟨b, e, hcs, q⟩ := pair_open Tryd.underlying82 rfl rfl (by kernel_rfl) (by kernel_rfl) (by kernel_rfl) (by kernel_rfl) (by kernel_rfl) h
  refine ⟨b, e, ?_, q⟩
  cases cs
  simp at hcs
  rw [hcs]
end
end Go.Proofs.YtaekabhcgdjhfaaDoor

/- Small contracts behind the laws of layer 8. No condition. -/
namespace Go.Proofs.YtaekabhcgdjhfaaDoor
open Go.ChangeShapes Go.WideShapes Go.ChangeAt Go.RowKit
set_option linter.unusedVariables false
theorem beyond2 (x0 x1 : Nat) (w : World) (hx0 : x0 ≤ 9000000000000000000) (hx1 : x1 ≤ 9000000000000000000) :
    Calls Tryd.prog 7 #[.slice (some ⟨w.heap.size, 0, none⟩) 2 2] (w.alloc (.cells #[.int .i64 (x0 : Nat), .int .i64 (x1 : Nat)] 3)) fun ev w' => ev = .returned (.bool (decide (1048576 < x0 + x1))) ∧ w' = (w.alloc (.cells #[.int .i64 (x0 : Nat), .int .i64 (x1 : Nat)] 3)) := by
  have := beyond_any [x0, x1] w.heap.size 2 2 (w.alloc (.cells #[.int .i64 (x0 : Nat), .int .i64 (x1 : Nat)] 3)) rfl (by simp; omega) (fun j x hj => by
    refine cell_new _ _ _ _ ?_
    match j, hj with
    | 0, hj => simp at hj; subst hj; rfl
    | 1, hj => simp at hj; subst hj; rfl
    | j + 2, hj => simp at hj) (by omega)
  have hs : [x0, x1].sum = x0 + x1 := by simp <;> omega
  rw [hs] at this
  exact this.mono (fun _ _ h => ⟨h.1, h.2.symm⟩)
theorem beyond4 (x0 x1 x2 x3 : Nat) (w : World) (hx0 : x0 ≤ 9000000000000000000) (hx1 : x1 ≤ 9000000000000000000) (hx2 : x2 ≤ 9000000000000000000) (hx3 : x3 ≤ 9000000000000000000) :
    Calls Tryd.prog 7 #[.slice (some ⟨w.heap.size, 0, none⟩) 4 4] (w.alloc (.cells #[.int .i64 (x0 : Nat), .int .i64 (x1 : Nat), .int .i64 (x2 : Nat), .int .i64 (x3 : Nat)] 3)) fun ev w' => ev = .returned (.bool (decide (1048576 < x0 + x1 + x2 + x3))) ∧ w' = (w.alloc (.cells #[.int .i64 (x0 : Nat), .int .i64 (x1 : Nat), .int .i64 (x2 : Nat), .int .i64 (x3 : Nat)] 3)) := by
  have := beyond_any [x0, x1, x2, x3] w.heap.size 4 4 (w.alloc (.cells #[.int .i64 (x0 : Nat), .int .i64 (x1 : Nat), .int .i64 (x2 : Nat), .int .i64 (x3 : Nat)] 3)) rfl (by simp; omega) (fun j x hj => by
    refine cell_new _ _ _ _ ?_
    match j, hj with
    | 0, hj => simp at hj; subst hj; rfl
    | 1, hj => simp at hj; subst hj; rfl
    | 2, hj => simp at hj; subst hj; rfl
    | 3, hj => simp at hj; subst hj; rfl
    | j + 4, hj => simp at hj) (by omega)
  have hs : [x0, x1, x2, x3].sum = x0 + x1 + x2 + x3 := by simp <;> omega
  rw [hs] at this
  exact this.mono (fun _ _ h => ⟨h.1, h.2.symm⟩)
/-- a row compared with itself; with the hash of noughts -/
theorem eq_self (p : List UInt8) (hp : p.length = 32) (vp : Array Value) (h : hv p = .agg vp) (w : World) : (Op.equalIn 10000 34 (.agg vp) (.agg vp)).run Tryd.prog w = .ok true w := by
  rw [eq_hash p p hp hp vp vp h h w]; simp
theorem eq_zero (vz : Array Value) (h : hv zeroH = .agg vz) (w : World) : (Op.equalIn 10000 34 (.agg vz) (.agg #[.int .u8 0, .int .u8 0, .int .u8 0, .int .u8 0, .int .u8 0, .int .u8 0, .int .u8 0, .int .u8 0, .int .u8 0, .int .u8 0, .int .u8 0, .int .u8 0, .int .u8 0, .int .u8 0, .int .u8 0, .int .u8 0, .int .u8 0, .int .u8 0, .int .u8 0, .int .u8 0, .int .u8 0, .int .u8 0, .int .u8 0, .int .u8 0, .int .u8 0, .int .u8 0, .int .u8 0, .int .u8 0, .int .u8 0, .int .u8 0, .int .u8 0, .int .u8 0])).run Tryd.prog w = .ok true w := by
  rw [eq_hash zeroH zeroH zeroH_length zeroH_length vz _ h (by rw [zeroH_v]; rfl) w]; simp
end Go.Proofs.YtaekabhcgdjhfaaDoor

/- The law ForgeNone. Condition: the package-level variables read as listed. -/
namespace Go.Proofs.YtaekabhcgdjhfaaDoor
open Go.ChangeShapes Go.WideShapes Go.ChangeAt Go.RowKit
set_option linter.unusedVariables false
theorem own_sin {w : World} {base : Nat} {A : Option Addr} {n cap : Nat} {l : List ByteArray} (h : w.ownsRow base 9 1 (.slice A n cap) n (l.map Value.string)) (hn : l.length = n) (hs : ∀ s ∈ l, s.size ≤ 140737488355328) (h9 : n ≤ 140737488355328) : SIn w A n cap l := by
  rcases h with ⟨h1, ⟨h2, h3⟩ | ⟨g, c, cur, h2, h3, h4, h5, h6, h7, h8⟩⟩
  · cases h2
    exact ⟨hn, Nat.le_refl _, by omega, hs, h9, .inl (List.length_eq_zero_iff.1 (by omega))⟩
  · cases h2
    refine ⟨hn, h5, by unfold maxLen at h6; omega, hs, h9, .inr ⟨g, 0, rfl, fun j v hj => ?_⟩⟩
    rw [Nat.zero_add, cell_of_row w g j _ 9 (0, 0) h4]
    rw [← h8] at hj
    have hjn : j < n * 1 := by have := (List.getElem?_eq_some_iff.1 hj).1; rw [List.length_take] at this; omega
    rw [List.getElem?_take_of_lt hjn] at hj
    simpa using hj
set_option maxRecDepth 100000 in
set_option maxHeartbeats 4000000 in
theorem none_great (a : Nat → Addr) (B : Nat) (D : List ByteArray) (A : Option Addr) (n c X Y Z : Nat) (w : World) (hE : Env B a w) (h : SIn w A n c D) (hX : X < 18446744073709551616) (hY : Y < 18446744073709551616) (hZ : Z < 18446744073709551616) (hg : 1048576 < n + bulk D) :
    Calls Tryd.prog 6 #[.slice A n c, .int .u64 X, .int .u64 Y, .int .u64 Z] w fun ev w' => ev = .returned (.bool true) ∧ Below w.heap.size w w' := by
  have HE := Lib.hid hE
  have HD := Lib.hid h
  have hn9 : n ≤ 140737488355328 := h.2.2.2.2.1
  have HG := Lib.hid hg
  clear hE h hg
  go_enter Tryd.func6, Tryd.ntmps6
  go_wp2_with fail
  refine (texts_any D A n c w HD.out).mono ?_
  rintro ev w' ⟨t, rfl, ht9, ht, rfl⟩
  have HT0 := Lib.hid ht
  clear ht
  go_wp2_with fail
  refine (beyond2 n t w (by omega) ht9).mono ?_
  rintro ev w1 ⟨rfl, hw1⟩
  have b1 : Below w.heap.size w w1 := by rw [hw1]; exact (Below.refl _ _).alloc (Nat.le_refl _) _
  clear hw1
  have hgd : decide (1048576 < n + t) = true := by have := HT0.out; have := HG.out; simp; omega
  rw [hgd]
  go_wp2
  go_ret
  exact ⟨rfl, b1⟩
set_option maxRecDepth 100000 in
set_option maxHeartbeats 16000000 in
theorem none_ok (a : Nat → Addr) (B : Nat) (D : List ByteArray) (A : Option Addr) (n c X Y Z : Nat) (w : World) (hE : Env B a w) (h : SIn w A n c D) (hX : X < 18446744073709551616) (hY : Y < 18446744073709551616) (hZ : Z < 18446744073709551616) (hg : n + bulk D ≤ 1048576) (h0 : X < Z ∧ Z ≤ (keptL D).length) :
    Calls Tryd.prog 6 #[.slice A n c, .int .u64 X, .int .u64 Y, .int .u64 Z] w fun ev w' => ev = .returned (.bool true) ∧ Below w.heap.size w w' := by
  have HE := Lib.hid hE
  have HD := Lib.hid h
  have hn9 : n ≤ 140737488355328 := h.2.2.2.2.1
  have HG := Lib.hid hg
  clear hE h hg
  go_enter Tryd.func6, Tryd.ntmps6
  go_wp2_with fail
  refine (texts_any D A n c w HD.out).mono ?_
  rintro ev w' ⟨t, rfl, ht9, ht, rfl⟩
  have HT0 := Lib.hid ht
  clear ht
  go_wp2_with fail
  refine (beyond2 n t w (by omega) ht9).mono ?_
  rintro ev w1 ⟨rfl, hw1⟩
  have b1 : Below w.heap.size w w1 := by rw [hw1]; exact (Below.refl _ _).alloc (Nat.le_refl _) _
  clear hw1
  have hgd : decide (1048576 < n + t) = false := by have := HT0.out; have := HG.out; simp; omega
  have hn10 : n ≤ 1048576 := by have := HG.out; omega
  rw [hgd]
  go_wp2_with fail
  refine (logs20_any a B D A n c w1 (HE.out.step b1) (HD.out.below b1) hn10).mono ?_
  rintro ev w2 ⟨b, v, b2, rfl, hL2, bb⟩
  have HL2 := Lib.hid hL2
  have HB2 : Hid (Below w.heap.size w w2) := Lib.hid (b1.trans (bb.mono b1.size))
  have HE2 := Lib.hid (HE.out.step HB2.out)
  have HCw2 : Hid (Below w2.heap.size w2 w2) := Lib.hid (Below.refl _ _)
  have hN9 : (keptL D).length ≤ 1048576 := hL2.1.1
  clear hL2 b1 bb
  obtain ⟨L, hL⟩ : ∃ L, keptL D = L := ⟨_, rfl⟩
  rw [hL] at HL2 h0 hN9
  obtain ⟨base, hbase⟩ : ∃ z, w1.heap.size = z := ⟨_, rfl⟩
  rw [hbase] at HL2
  have HN9 := Lib.hid hN9
  have HLV := Lib.hid (lives20_any a B)
  obtain ⟨vr, evr, Hvr, Zvr, Ivr, Ovr⟩ := row_of (treeB L 0 Z) (treeB_len _ _ _)
  have HROOT : Hid (∀ w, Env B a w → LogAt base b v L w → Z ≤ L.length → Calls Tryd.prog 11 #[.pointer (some ⟨b, 0, none⟩), .int .u64 Z] w fun ev w' => ev = .returned (.tuple #[.agg vr, .nilIface]) ∧ Below w.heap.size w w') := Lib.hid (fun w e q hz => by
    have := lroot_ok a B base b v L Z w e q (by omega) (by omega)
    rw [evr] at this; exact this)
  have HLOK := Lib.hid (show LogOk L from HL2.out.1)
  have HRIGHT : Hid (∀ (s : ByteArray) (w : World), 0 < Z → Z ≤ L.length → bOf s = soB L Z → Env B a w → Calls Tryd.prog 17 #[.string s, .string s, .bool false, .bool true, .agg vr] w fun ev w' => ev = .returned (.bool true) ∧ Below w.heap.size w w') := Lib.hid (fun s w z0 z1 hs e => by
    have := right_any a B s (treeB L 0 Z) w e (by have := soB_len z0 z1 HLOK.out; rw [← hs, bOf_length] at this; omega) (treeB_len _ _ _) (by rw [hs]; exact soB_sha z0 z1 HLOK.out.1)
    rw [evr] at this; exact this)
  clear hL hbase evr
  obtain ⟨d, hd⟩ : ∃ s, L[X]? = some s := ⟨_, List.getElem?_eq_getElem (by omega)⟩
  have HD := Lib.hid hd
  have hds : d.size ≤ 65536 := HL2.out.1.2 d (List.mem_of_getElem? hd)
  have zx : ByteArray.size ⟨#[120]⟩ = 1 := rfl
  clear hd
  go_wp2_with fail
  refine (lpath_ok a B base b v L X Z w2 (HE2.out.step HCw2.out) (HL2.out.below HCw2.out) (by omega) (by omega) (by omega)).mono ?_
  rintro ev v11 ⟨hp32, vv, rfl, ho, bb⟩
  obtain ⟨Ap, cp, rfl, hc0⟩ := own_shape ho
  have HP := Lib.hid (own_hin ho hp32 rfl)
  clear ho hp32 hc0
  generalize hq : List.length (treesB L _) = mp at HP ⊢
  clear hq
  have HCv11 : Hid (Below w2.heap.size w2 v11) := Lib.hid (HCw2.out.trans (bb.mono HCw2.out.size))
  have Sv11 : Hid (Below w2.heap.size w2 v11) := Lib.hid bb
  clear bb
  go_wp2_with fail
  refine (lleaf_ok base b v L v11 (HL2.out.below HCv11.out) X d HD.out).mono ?_
  rintro ev w' ⟨rfl, rfl⟩
  go_wp2_with fail
  refine (finc_so a B base b v L X Z d Ap mp cp v11 (HE2.out.step HCv11.out) (HL2.out.below HCv11.out) (by omega) (by omega) HD.out HP.out).mono ?_
  rintro ev v12 ⟨⟨s1, rfl, hs⟩, bb⟩
  have HRs1 : Hid (∀ w, Env B a w → Calls Tryd.prog 17 #[.string s1, .string s1, .bool false, .bool true, .agg vr] w fun ev w' => ev = .returned (.bool true) ∧ Below w.heap.size w w') := Lib.hid (fun w e => HRIGHT.out s1 w (by omega) (by omega) hs e)
  clear hs
  have HCv12 : Hid (Below w2.heap.size w2 v12) := Lib.hid (HCv11.out.trans (bb.mono HCv11.out.size))
  have Sv12 : Hid (Below v11.heap.size v11 v12) := Lib.hid bb
  clear bb
  go_wp2_with fail
  refine (finc_none (.pointer none) X Z _ Ap mp cp v12 (a 1) (fun w' hb => lroot_none a B Z w' ((HE2.out.step HCv12.out).step hb))).mono ?_
  rintro ev v13 ⟨rfl, bb⟩
  have HCv13 : Hid (Below w2.heap.size w2 v13) := Lib.hid (HCv12.out.trans (bb.mono HCv12.out.size))
  have Sv13 : Hid (Below v12.heap.size v12 v13) := Lib.hid bb
  clear bb
  go_wp2_with fail
  refine (HROOT.out v13 (HE2.out.step HCv13.out) (HL2.out.below HCv13.out) (by omega)).mono ?_
  rintro ev v14 ⟨rfl, bb⟩
  have HCv14 : Hid (Below w2.heap.size w2 v14) := Lib.hid (HCv13.out.trans (bb.mono HCv13.out.size))
  have Sv14 : Hid (Below v13.heap.size v13 v14) := Lib.hid bb
  clear bb
  go_upto_region 13 with (refine wpList_store_row_any rfl 34 _ _ rfl v14.heap.size vr rfl rfl 34 _ (heap_at _ _ _ rfl) Ivr.out (by rw [Zvr.out]; rfl) Ovr.out ?_; intro v15 hbN hgN hsN; have bs : Below v14.heap.size v14 v15 := ((Below.refl _ v14).alloc (Nat.le_refl _) _).trans (hbN.to_below (by simp) (fun k hk q => by omega)); have Rv15 := Lib.hid hgN; clear hbN hgN hsN)
  have HCv15 : Hid (Below w2.heap.size w2 v15) := Lib.hid (HCv14.out.trans (bs.mono HCv14.out.size))
  have Sv15 : Hid (Below v14.heap.size v14 v15) := Lib.hid bs
  clear bs
  have RR : Hid (v15.heap[v14.heap.size]? = some (.cells vr 34 (0, 0))) := Rv15
  go_wp2_with (refine wpList_load_row_g rfl 34 _ rfl v14.heap.size rfl 34 vr (0, 0) _ RR.out Tryd.underlying34 rfl Ivr.out ?_)
  refine (HRs1.out v15 (HE2.out.step HCv15.out)).mono ?_
  rintro ev v16 ⟨rfl, bb⟩
  have HCv16 : Hid (Below w2.heap.size w2 v16) := Lib.hid (HCv15.out.trans (bb.mono HCv15.out.size))
  have Sv16 : Hid (Below v15.heap.size v15 v16) := Lib.hid bb
  clear bb
  by_cases h1 : 0 < X ∧ X ≤ Z ∧ Z ≤ L.length
  · obtain ⟨vx, evx, Hvx, Zvx, Ivx, Ovx⟩ := row_of (treeB L 0 X) (treeB_len _ _ _)
    have HRX : Hid (∀ w, Env B a w → LogAt base b v L w → Calls Tryd.prog 11 #[.pointer (some ⟨b, 0, none⟩), .int .u64 X] w fun ev w' => ev = .returned (.tuple #[.agg vx, .nilIface]) ∧ Below w.heap.size w w') := Lib.hid (fun w e q => by
      have := lroot_ok a B base b v L X w e q (by omega) (by omega)
      rw [evx] at this; exact this)
    have HFC : Hid (∀ A m c w, Env B a w → LogAt base b v L w → HIn w A m c (treesB L (proofL 64 X 0 Z)) → Calls Tryd.prog 18 #[.pointer (some ⟨b, 0, none⟩), .int .u64 X, .int .u64 Z, .agg vx, .slice A m c] w fun ev w' => (∃ s, ev = .returned (.tuple #[.string s, .string s, .bool false]) ∧ bOf s = soB L Z) ∧ Below w.heap.size w w') := Lib.hid (fun A m c w e q r => by
      have := fcon_so a B base b v L X Z A m c w e q (by omega) (by omega) (by omega) r
      rw [evx] at this; exact this)
    have HFN : Hid (∀ (g : Nat) (A : Option Addr) (m c : Nat) (w : World), Env B a w → w.cell? ⟨g, 1, none⟩ = some (.bool false) → g < w.heap.size → Calls Tryd.prog 18 #[.pointer (some ⟨g, 0, none⟩), .int .u64 X, .int .u64 Z, .agg vx, .slice A m c] w fun ev w' => ev = .returned (.tuple #[.string ⟨#[]⟩, .string ⟨#[]⟩, .bool false]) ∧ Below w.heap.size w w') := Lib.hid (fun g A m c w e h1 h2 => by
      have := fcon_none (.pointer (some ⟨g, 0, none⟩)) X Z (treeB L 0 X) (treeB_len _ _ _) A m c w (a 1) (fun w' hb => lroot_nil a B g Z w' (e.step hb) (cell_below hb h1 h2))
      rw [evx] at this; exact this)
    have hx1 : (0 : Int) < (X : Int) := by omega
    have hx2 : ((X : Int) == 0) = false := by simp; omega
    clear evx
    go_wp2_with fail
    refine (lproof_ok a B base b v L X Z v16 (HE2.out.step HCv16.out) (HL2.out.below HCv16.out) (by omega) (by omega) (by omega)).mono ?_
    rintro ev v17 ⟨hp32, vv, rfl, ho, bb⟩
    obtain ⟨Aq, cq, rfl, hc0⟩ := own_shape ho
    have HQ := Lib.hid (own_hin ho hp32 rfl)
    clear ho hp32 hc0
    generalize hq : List.length (treesB L _) = mq at HQ ⊢
    clear hq
    have HCv17 : Hid (Below w2.heap.size w2 v17) := Lib.hid (HCv16.out.trans (bb.mono HCv16.out.size))
    have Sv17 : Hid (Below v16.heap.size v16 v17) := Lib.hid bb
    clear bb
    go_wp2_with fail
    refine (HRX.out v17 (HE2.out.step HCv17.out) (HL2.out.below HCv17.out)).mono ?_
    rintro ev v18 ⟨rfl, bb⟩
    have HCv18 : Hid (Below w2.heap.size w2 v18) := Lib.hid (HCv17.out.trans (bb.mono HCv17.out.size))
    have Sv18 : Hid (Below v17.heap.size v17 v18) := Lib.hid bb
    clear bb
    go_upto_region 18 with (refine wpList_store_row_any rfl 34 _ _ rfl v18.heap.size vx rfl rfl 34 _ (heap_at _ _ _ rfl) Ivx.out (by rw [Zvx.out]; rfl) Ovx.out ?_; intro v19 hbN hgN hsN; have bs : Below v18.heap.size v18 v19 := ((Below.refl _ v18).alloc (Nat.le_refl _) _).trans (hbN.to_below (by simp) (fun k hk q => by omega)); have Rv19 := Lib.hid hgN; clear hbN hgN hsN)
    have HCv19 : Hid (Below w2.heap.size w2 v19) := Lib.hid (HCv18.out.trans (bs.mono HCv18.out.size))
    have Sv19 : Hid (Below v18.heap.size v18 v19) := Lib.hid bs
    clear bs
    go_wp2_with (refine wpList_load_row rfl 34 _ rfl v18.heap.size rfl 34 vx (0, 0) _ Rv19.out Tryd.underlying34 rfl Ivx.out ?_)
    refine (HFC.out Aq mq cq v19 (HE2.out.step HCv19.out) (HL2.out.below HCv19.out) (HQ.out.below (Sv18.out.trans (Sv19.out.mono Sv18.out.size)))).mono ?_
    rintro ev v20 ⟨⟨s2, rfl, hs⟩, bb⟩
    have HRs2 : Hid (∀ w, Env B a w → Calls Tryd.prog 17 #[.string s2, .string s2, .bool false, .bool true, .agg vr] w fun ev w' => ev = .returned (.bool true) ∧ Below w.heap.size w w') := Lib.hid (fun w e => HRIGHT.out s2 w (by omega) (by omega) hs e)
    clear hs
    have HCv20 : Hid (Below w2.heap.size w2 v20) := Lib.hid (HCv19.out.trans (bb.mono HCv19.out.size))
    have Sv20 : Hid (Below v19.heap.size v19 v20) := Lib.hid bb
    clear bb
    have RX : Hid ((v20.alloc (.cells #[.slice none 0 0, .bool false] 56)).heap[v18.heap.size]? = some (.cells vx 34 (0, 0))) := Lib.hid ((((Below.refl _ v20).alloc (Nat.le_refl _) _).block _ (Nat.lt_of_lt_of_le (Array.getElem?_eq_some_iff.1 Rv19.out).1 Sv20.out.size)).trans ((Sv20.out.block _ (Array.getElem?_eq_some_iff.1 Rv19.out).1).trans Rv19.out))
    have bd : Below v20.heap.size v20 (v20.alloc (.cells #[.slice none 0 0, .bool false] 56)) := (Below.refl _ _).alloc (Nat.le_refl _) _
    have hcn : (v20.alloc (.cells #[.slice none 0 0, .bool false] 56)).cell? ⟨v20.heap.size, 1, none⟩ = some (.bool false) := cell_new _ _ 1 _ rfl
    have hln : v20.heap.size < (v20.alloc (.cells #[.slice none 0 0, .bool false] 56)).heap.size := by simp
    have HCN := Lib.hid (And.intro (HE2.out.step (HCv20.out.trans (bd.mono HCv20.out.size))) (And.intro hcn hln))
    clear hcn hln
    go_wp2_with (refine wpList_load_row rfl 34 _ rfl v18.heap.size rfl 34 vx (0, 0) _ RX.out Tryd.underlying34 rfl Ivx.out ?_)
    refine (HFN.out v20.heap.size Aq mq cq _ HCN.out.1 HCN.out.2.1 HCN.out.2.2).mono ?_
    rintro ev v21 ⟨rfl, bb⟩
    have bb : Below v20.heap.size v20 v21 := bd.trans (bb.mono bd.size)
    clear bd
    have HCv21 : Hid (Below w2.heap.size w2 v21) := Lib.hid (HCv20.out.trans (bb.mono HCv20.out.size))
    have Sv21 : Hid (Below v20.heap.size v20 v21) := Lib.hid bb
    clear bb
    go_wp2_with fail
    refine (HROOT.out v21 (HE2.out.step HCv21.out) (HL2.out.below HCv21.out) (by omega)).mono ?_
    rintro ev v22 ⟨rfl, bb⟩
    have HCv22 : Hid (Below w2.heap.size w2 v22) := Lib.hid (HCv21.out.trans (bb.mono HCv21.out.size))
    have Sv22 : Hid (Below v21.heap.size v21 v22) := Lib.hid bb
    clear bb
    go_upto_region 21 with (refine wpList_store_row_any rfl 34 _ _ rfl v22.heap.size vr rfl rfl 34 _ (heap_at _ _ _ rfl) Ivr.out (by rw [Zvr.out]; rfl) Ovr.out ?_; intro v23 hbN hgN hsN; have bs : Below v22.heap.size v22 v23 := ((Below.refl _ v22).alloc (Nat.le_refl _) _).trans (hbN.to_below (by simp) (fun k hk q => by omega)); have Rv23 := Lib.hid hgN; clear hbN hgN hsN)
    have HCv23 : Hid (Below w2.heap.size w2 v23) := Lib.hid (HCv22.out.trans (bs.mono HCv22.out.size))
    have Sv23 : Hid (Below v22.heap.size v22 v23) := Lib.hid bs
    clear bs
    have RR : Hid (v23.heap[v22.heap.size]? = some (.cells vr 34 (0, 0))) := Rv23
    go_wp2_with (refine wpList_load_row_g rfl 34 _ rfl v22.heap.size rfl 34 vr (0, 0) _ RR.out Tryd.underlying34 rfl Ivr.out ?_)
    refine (HRs2.out v23 (HE2.out.step HCv23.out)).mono ?_
    rintro ev v24 ⟨rfl, bb⟩
    have HCv24 : Hid (Below w2.heap.size w2 v24) := Lib.hid (HCv23.out.trans (bb.mono HCv23.out.size))
    have Sv24 : Hid (Below v23.heap.size v23 v24) := Lib.hid bb
    clear bb
    by_cases h2 : X < Y ∧ Y ≤ Z ∧ Z ≤ L.length
    · obtain ⟨i0, hii, hz0, hz1, hz2⟩ := info_parts info_str
      go_wp2_with fail
      refine (lbatch_ok a B base b v L X Y Z v24 (HE2.out.step HCv24.out) (HL2.out.below HCv24.out) (by omega) (by omega) (by omega) (by omega)).mono ?_
      rintro ev v25 ⟨hp32, vv, rfl, ho, bb⟩
      obtain ⟨Ab, cb, rfl, hc0⟩ := own_shape ho
      have HB3 := Lib.hid (own_hin ho hp32 rfl)
      clear ho hp32 hc0
      generalize hq : List.length (treesB L _) = mb at HB3 ⊢
      clear hq
      have HCv25 : Hid (Below w2.heap.size w2 v25) := Lib.hid (HCv24.out.trans (bb.mono HCv24.out.size))
      have Sv25 : Hid (Below v24.heap.size v24 v25) := Lib.hid bb
      clear bb
      have HYX : Hid (Y ≤ 1048576 ∧ X < Y) := Lib.hid (by have := HN9.out; omega)
      go_wp2_with fail
      go_loopw [35, 36] (fun o i wr => ∃ k Aq cq, X + k ≤ Y ∧ i = .int .u64 ((X + k : Nat) : Int) ∧ o = .slice Aq k cq ∧ k ≤ cq ∧ Hid (wr.ownsRow v25.heap.size 9 1 (.slice Aq k cq) k (((L.drop X).take k).map Value.string)) ∧ Hid (Below v25.heap.size v25 wr)) (fun _ i _ => Y - (intOf i).toNat)
      case atStart => exact ⟨0, none, 0, by omega, by simp, rfl, Nat.le_refl _, Lib.hid (by simpa using World.ownsRow_nil _ _ _ _), Lib.hid (Below.refl _ _)⟩
      case round =>
        obtain ⟨k, Aq, cq, hk, rfl, rfl, hkc, HO, HG⟩ := hrel
        have HCwr : Hid (Below w2.heap.size w2 wr) := Lib.hid (HCv25.out.trans (HG.out.mono HCv25.out.size))
        by_cases hlt : X + k < Y
        · obtain ⟨d, hd⟩ : ∃ s, L[X + k]? = some s := ⟨_, List.getElem?_eq_getElem (by omega)⟩
          have HDk := Lib.hid hd
          have HTK : Hid (((L.drop X).take (k + 1)).map Value.string = ((L.drop X).take k).map Value.string ++ [.string d]) := Lib.hid (by
            rw [List.take_add_one, List.getElem?_drop, hd, List.map_append]; rfl)
          obtain ⟨outk, houtk⟩ : ∃ o, ((L.drop X).take k).map Value.string = o := ⟨_, rfl⟩
          rw [houtk] at HO HTK
          have hi1 : ((X + k : Nat) : Int) < (Y : Int) := by omega
          have hk9 : k ≤ 1048576 := by have := HYX.out; omega
          have HXK : Hid (X + k ≤ 1048576) := Lib.hid (by have := HYX.out; omega)
          have hwr := HG.out.size
          obtain ⟨q, hq⟩ : ∃ q, X + k = q := ⟨_, rfl⟩
          rw [hq] at HDk HXK hi1 hlt
          have HQK := Lib.hid hq
          have hwq : IntKind.u64.wrap ((q : Int) + 1) = (q : Int) + 1 := IntWalk.u64_in _ (by have := HXK.out; omega)
          have hown := HO.out
          rw [hq]
          clear hd houtk hq hk
          go_wp2_with fail
          refine (lleaf_ok base b v L wr (HL2.out.below HCwr.out) q d HDk.out).mono ?_
          rintro ev w' ⟨rfl, rfl⟩
          go_wp2_with (at_builtin; refine wpList_append_lies _ rfl _ _ 22 rfl v25.heap.size 9 i0 (.string ⟨#[]⟩) 1 16 Tryd.underlying22 hii hz0 hz1 hz2 rfl (by decide) (.slice Aq k cq) _ _ rfl (hown.alloc _) ⟨wr.heap.size, 0, none⟩ 1 1 _ rfl rfl (news_new _ _) (by simp [Value.oneCell']) (by decide) (by unfold maxLen; omega) (by omega) (by simp; omega) _ rfl ?_; intro g3 cap3 w3 hown3 hgrow3 hat3 hlt3; have HX := Lib.hid (And.intro hown3 hgrow3); have hc3 := (show k + 1 ≤ cap3 by (obtain ⟨_, _, e, hc⟩ := own_shape hown3; cases e; exact hc)); clear hown3 hgrow3 hat3)
          go_roundw
          case rel => exact ⟨k + 1, _, cap3, by have := HQK.out; omega, by rw [← HQK.out]; go_num, rfl, hc3, Lib.hid (own_congr HX.out.1 rfl HTK.out.symm), Lib.hid ((HG.out.trans (((Below.refl _ wr).alloc (Nat.le_refl _) _).mono HG.out.size)).grown HX.out.2 (by simp; omega) (fun q hq => (HO.out.lt q hq).1))⟩
          case measure => simp [intOf]; omega
        · obtain ⟨n3, hn3⟩ : ∃ n, Y - X = n := ⟨_, rfl⟩
          obtain rfl : n3 = k := by omega
          have HSI : Hid (SIn wr Aq n3 cq ((L.drop X).take n3)) := Lib.hid (own_sin HO.out (by rw [List.length_take, List.length_drop]; omega) (fun s hs => by
            have := HL2.out.1.2 s (List.mem_of_mem_drop (List.mem_of_mem_take hs)); omega) (by have := HYX.out; omega))
          have HFB : Hid (Calls Tryd.prog 20 #[.pointer (some ⟨b, 0, none⟩), .int .u64 X, .int .u64 Z, .slice Aq n3 cq, .slice Ab mb cb] wr fun ev w' => (∃ s, ev = .returned (.tuple #[.string s, .string s, .bool false]) ∧ bOf s = soB L Z) ∧ Below wr.heap.size wr w') := Lib.hid (by
            have := fbat_so a B base b v L X Y Z Aq cq Ab mb cb wr (HE2.out.step HCwr.out) (HL2.out.below HCwr.out) (by have := HYX.out; omega) (by omega) (by omega) (by rw [hn3]; exact HSI.out) (HB3.out.below HG.out)
            rw [hn3] at this; exact this)
          have hz1' : (0 : Int) < (Z : Int) := by omega
          have hz2' : ((Z : Int) == 0) = false := by simp; omega
          clear hn3
          go_wp2_with fail
          refine HFB.out.mono ?_
          rintro ev v26 ⟨⟨s3, rfl, hs⟩, bb⟩
          have HRs3 : Hid (∀ w, Env B a w → Calls Tryd.prog 17 #[.string s3, .string s3, .bool false, .bool true, .agg vr] w fun ev w' => ev = .returned (.bool true) ∧ Below w.heap.size w w') := Lib.hid (fun w e => HRIGHT.out s3 w (by omega) (by omega) hs e)
          clear hs
          have HCv26 : Hid (Below w2.heap.size w2 v26) := Lib.hid (HCwr.out.trans (bb.mono HCwr.out.size))
          have Sv26 : Hid (Below wr.heap.size wr v26) := Lib.hid bb
          clear bb
          go_wp2_with fail
          refine (fbat_none (.pointer none) X Z Aq n3 cq Ab mb cb v26 (a 1) (lroot_none a B Z v26 (HE2.out.step HCv26.out))).mono ?_
          rintro ev v27 ⟨rfl, bb⟩
          have HCv27 : Hid (Below w2.heap.size w2 v27) := Lib.hid (HCv26.out.trans (bb.mono HCv26.out.size))
          have Sv27 : Hid (Below v26.heap.size v26 v27) := Lib.hid bb
          clear bb
          go_wp2_with fail
          refine (HROOT.out v27 (HE2.out.step HCv27.out) (HL2.out.below HCv27.out) (by omega)).mono ?_
          rintro ev v28 ⟨rfl, bb⟩
          have HCv28 : Hid (Below w2.heap.size w2 v28) := Lib.hid (HCv27.out.trans (bb.mono HCv27.out.size))
          have Sv28 : Hid (Below v27.heap.size v27 v28) := Lib.hid bb
          clear bb
          go_upto_region 36 with (refine wpList_store_row_any rfl 34 _ _ rfl v28.heap.size vr rfl rfl 34 _ (heap_at _ _ _ rfl) Ivr.out (by rw [Zvr.out]; rfl) Ovr.out ?_; intro v29 hbN hgN hsN; have bs : Below v28.heap.size v28 v29 := ((Below.refl _ v28).alloc (Nat.le_refl _) _).trans (hbN.to_below (by simp) (fun k hk q => by omega)); have Rv29 := Lib.hid hgN; clear hbN hgN hsN)
          have HCv29 : Hid (Below w2.heap.size w2 v29) := Lib.hid (HCv28.out.trans (bs.mono HCv28.out.size))
          have Sv29 : Hid (Below v28.heap.size v28 v29) := Lib.hid bs
          clear bs
          have RR : Hid (v29.heap[v28.heap.size]? = some (.cells vr 34 (0, 0))) := Rv29
          go_wp2_with (refine wpList_load_row_g rfl 34 _ rfl v28.heap.size rfl 34 vr (0, 0) _ RR.out Tryd.underlying34 rfl Ivr.out ?_)
          refine (HRs3.out v29 (HE2.out.step HCv29.out)).mono ?_
          rintro ev v30 ⟨rfl, bb⟩
          have HCv30 : Hid (Below w2.heap.size w2 v30) := Lib.hid (HCv29.out.trans (bb.mono HCv29.out.size))
          have Sv30 : Hid (Below v29.heap.size v29 v30) := Lib.hid bb
          clear bb
          go_wp2_with fail
          refine (HLV.out v30 (HE2.out.step HCv30.out)).mono ?_
          rintro ev w' ⟨rfl, bb⟩
          go_wp2
          go_ret
          exact ⟨rfl, HB2.out.trans ((HCv30.out.trans (bb.mono HCv30.out.size)).mono HB2.out.size)⟩
    · go_wp2_with fail
      refine (lbatch_bad a B base b v L X Y Z v24 (HE2.out.step HCv24.out) (HL2.out.below HCv24.out) (by omega) (by omega) (by omega) (by omega) (by omega) (by omega) (by omega)).mono ?_
      rintro ev v32 ⟨rfl, bb⟩
      unfold errV
      have HCv32 : Hid (Below w2.heap.size w2 v32) := Lib.hid (HCv24.out.trans (bb.mono HCv24.out.size))
      have Sv32 : Hid (Below v24.heap.size v24 v32) := Lib.hid bb
      clear bb
      go_wp2_with fail
      refine (HLV.out v32 (HE2.out.step HCv32.out)).mono ?_
      rintro ev w' ⟨rfl, bb⟩
      go_wp2
      go_ret
      exact ⟨rfl, HB2.out.trans ((HCv32.out.trans (bb.mono HCv32.out.size)).mono HB2.out.size)⟩
  · go_wp2_with fail
    refine (lproof_bad a B base b v L X Z v16 (HE2.out.step HCv16.out) (HL2.out.below HCv16.out) (by omega) (by omega) (by omega) (by omega) (by omega)).mono ?_
    rintro ev v33 ⟨rfl, bb⟩
    unfold errV
    have HCv33 : Hid (Below w2.heap.size w2 v33) := Lib.hid (HCv16.out.trans (bb.mono HCv16.out.size))
    have Sv33 : Hid (Below v16.heap.size v16 v33) := Lib.hid bb
    clear bb
    by_cases h2 : X < Y ∧ Y ≤ Z ∧ Z ≤ L.length
    · obtain ⟨i0, hii, hz0, hz1, hz2⟩ := info_parts info_str
      go_wp2_with fail
      refine (lbatch_ok a B base b v L X Y Z v33 (HE2.out.step HCv33.out) (HL2.out.below HCv33.out) (by omega) (by omega) (by omega) (by omega)).mono ?_
      rintro ev v34 ⟨hp32, vv, rfl, ho, bb⟩
      obtain ⟨Ab, cb, rfl, hc0⟩ := own_shape ho
      have HB3 := Lib.hid (own_hin ho hp32 rfl)
      clear ho hp32 hc0
      generalize hq : List.length (treesB L _) = mb at HB3 ⊢
      clear hq
      have HCv34 : Hid (Below w2.heap.size w2 v34) := Lib.hid (HCv33.out.trans (bb.mono HCv33.out.size))
      have Sv34 : Hid (Below v33.heap.size v33 v34) := Lib.hid bb
      clear bb
      have HYX : Hid (Y ≤ 1048576 ∧ X < Y) := Lib.hid (by have := HN9.out; omega)
      go_wp2_with fail
      go_loopw [35, 36] (fun o i wr => ∃ k Aq cq, X + k ≤ Y ∧ i = .int .u64 ((X + k : Nat) : Int) ∧ o = .slice Aq k cq ∧ k ≤ cq ∧ Hid (wr.ownsRow v34.heap.size 9 1 (.slice Aq k cq) k (((L.drop X).take k).map Value.string)) ∧ Hid (Below v34.heap.size v34 wr)) (fun _ i _ => Y - (intOf i).toNat)
      case atStart => exact ⟨0, none, 0, by omega, by simp, rfl, Nat.le_refl _, Lib.hid (by simpa using World.ownsRow_nil _ _ _ _), Lib.hid (Below.refl _ _)⟩
      case round =>
        obtain ⟨k, Aq, cq, hk, rfl, rfl, hkc, HO, HG⟩ := hrel
        have HCwr : Hid (Below w2.heap.size w2 wr) := Lib.hid (HCv34.out.trans (HG.out.mono HCv34.out.size))
        by_cases hlt : X + k < Y
        · obtain ⟨d, hd⟩ : ∃ s, L[X + k]? = some s := ⟨_, List.getElem?_eq_getElem (by omega)⟩
          have HDk := Lib.hid hd
          have HTK : Hid (((L.drop X).take (k + 1)).map Value.string = ((L.drop X).take k).map Value.string ++ [.string d]) := Lib.hid (by
            rw [List.take_add_one, List.getElem?_drop, hd, List.map_append]; rfl)
          obtain ⟨outk, houtk⟩ : ∃ o, ((L.drop X).take k).map Value.string = o := ⟨_, rfl⟩
          rw [houtk] at HO HTK
          have hi1 : ((X + k : Nat) : Int) < (Y : Int) := by omega
          have hk9 : k ≤ 1048576 := by have := HYX.out; omega
          have HXK : Hid (X + k ≤ 1048576) := Lib.hid (by have := HYX.out; omega)
          have hwr := HG.out.size
          obtain ⟨q, hq⟩ : ∃ q, X + k = q := ⟨_, rfl⟩
          rw [hq] at HDk HXK hi1 hlt
          have HQK := Lib.hid hq
          have hwq : IntKind.u64.wrap ((q : Int) + 1) = (q : Int) + 1 := IntWalk.u64_in _ (by have := HXK.out; omega)
          have hown := HO.out
          rw [hq]
          clear hd houtk hq hk
          go_wp2_with fail
          refine (lleaf_ok base b v L wr (HL2.out.below HCwr.out) q d HDk.out).mono ?_
          rintro ev w' ⟨rfl, rfl⟩
          go_wp2_with (at_builtin; refine wpList_append_lies _ rfl _ _ 22 rfl v34.heap.size 9 i0 (.string ⟨#[]⟩) 1 16 Tryd.underlying22 hii hz0 hz1 hz2 rfl (by decide) (.slice Aq k cq) _ _ rfl (hown.alloc _) ⟨wr.heap.size, 0, none⟩ 1 1 _ rfl rfl (news_new _ _) (by simp [Value.oneCell']) (by decide) (by unfold maxLen; omega) (by omega) (by simp; omega) _ rfl ?_; intro g3 cap3 w3 hown3 hgrow3 hat3 hlt3; have HX := Lib.hid (And.intro hown3 hgrow3); have hc3 := (show k + 1 ≤ cap3 by (obtain ⟨_, _, e, hc⟩ := own_shape hown3; cases e; exact hc)); clear hown3 hgrow3 hat3)
          go_roundw
          case rel => exact ⟨k + 1, _, cap3, by have := HQK.out; omega, by rw [← HQK.out]; go_num, rfl, hc3, Lib.hid (own_congr HX.out.1 rfl HTK.out.symm), Lib.hid ((HG.out.trans (((Below.refl _ wr).alloc (Nat.le_refl _) _).mono HG.out.size)).grown HX.out.2 (by simp; omega) (fun q hq => (HO.out.lt q hq).1))⟩
          case measure => simp [intOf]; omega
        · obtain ⟨n3, hn3⟩ : ∃ n, Y - X = n := ⟨_, rfl⟩
          obtain rfl : n3 = k := by omega
          have HSI : Hid (SIn wr Aq n3 cq ((L.drop X).take n3)) := Lib.hid (own_sin HO.out (by rw [List.length_take, List.length_drop]; omega) (fun s hs => by
            have := HL2.out.1.2 s (List.mem_of_mem_drop (List.mem_of_mem_take hs)); omega) (by have := HYX.out; omega))
          have HFB : Hid (Calls Tryd.prog 20 #[.pointer (some ⟨b, 0, none⟩), .int .u64 X, .int .u64 Z, .slice Aq n3 cq, .slice Ab mb cb] wr fun ev w' => (∃ s, ev = .returned (.tuple #[.string s, .string s, .bool false]) ∧ bOf s = soB L Z) ∧ Below wr.heap.size wr w') := Lib.hid (by
            have := fbat_so a B base b v L X Y Z Aq cq Ab mb cb wr (HE2.out.step HCwr.out) (HL2.out.below HCwr.out) (by have := HYX.out; omega) (by omega) (by omega) (by rw [hn3]; exact HSI.out) (HB3.out.below HG.out)
            rw [hn3] at this; exact this)
          have hz1' : (0 : Int) < (Z : Int) := by omega
          have hz2' : ((Z : Int) == 0) = false := by simp; omega
          clear hn3
          go_wp2_with fail
          refine HFB.out.mono ?_
          rintro ev v35 ⟨⟨s3, rfl, hs⟩, bb⟩
          have HRs3 : Hid (∀ w, Env B a w → Calls Tryd.prog 17 #[.string s3, .string s3, .bool false, .bool true, .agg vr] w fun ev w' => ev = .returned (.bool true) ∧ Below w.heap.size w w') := Lib.hid (fun w e => HRIGHT.out s3 w (by omega) (by omega) hs e)
          clear hs
          have HCv35 : Hid (Below w2.heap.size w2 v35) := Lib.hid (HCwr.out.trans (bb.mono HCwr.out.size))
          have Sv35 : Hid (Below wr.heap.size wr v35) := Lib.hid bb
          clear bb
          go_wp2_with fail
          refine (fbat_none (.pointer none) X Z Aq n3 cq Ab mb cb v35 (a 1) (lroot_none a B Z v35 (HE2.out.step HCv35.out))).mono ?_
          rintro ev v36 ⟨rfl, bb⟩
          have HCv36 : Hid (Below w2.heap.size w2 v36) := Lib.hid (HCv35.out.trans (bb.mono HCv35.out.size))
          have Sv36 : Hid (Below v35.heap.size v35 v36) := Lib.hid bb
          clear bb
          go_wp2_with fail
          refine (HROOT.out v36 (HE2.out.step HCv36.out) (HL2.out.below HCv36.out) (by omega)).mono ?_
          rintro ev v37 ⟨rfl, bb⟩
          have HCv37 : Hid (Below w2.heap.size w2 v37) := Lib.hid (HCv36.out.trans (bb.mono HCv36.out.size))
          have Sv37 : Hid (Below v36.heap.size v36 v37) := Lib.hid bb
          clear bb
          go_upto_region 36 with (refine wpList_store_row_any rfl 34 _ _ rfl v37.heap.size vr rfl rfl 34 _ (heap_at _ _ _ rfl) Ivr.out (by rw [Zvr.out]; rfl) Ovr.out ?_; intro v38 hbN hgN hsN; have bs : Below v37.heap.size v37 v38 := ((Below.refl _ v37).alloc (Nat.le_refl _) _).trans (hbN.to_below (by simp) (fun k hk q => by omega)); have Rv38 := Lib.hid hgN; clear hbN hgN hsN)
          have HCv38 : Hid (Below w2.heap.size w2 v38) := Lib.hid (HCv37.out.trans (bs.mono HCv37.out.size))
          have Sv38 : Hid (Below v37.heap.size v37 v38) := Lib.hid bs
          clear bs
          have RR : Hid (v38.heap[v37.heap.size]? = some (.cells vr 34 (0, 0))) := Rv38
          go_wp2_with (refine wpList_load_row_g rfl 34 _ rfl v37.heap.size rfl 34 vr (0, 0) _ RR.out Tryd.underlying34 rfl Ivr.out ?_)
          refine (HRs3.out v38 (HE2.out.step HCv38.out)).mono ?_
          rintro ev v39 ⟨rfl, bb⟩
          have HCv39 : Hid (Below w2.heap.size w2 v39) := Lib.hid (HCv38.out.trans (bb.mono HCv38.out.size))
          have Sv39 : Hid (Below v38.heap.size v38 v39) := Lib.hid bb
          clear bb
          go_wp2_with fail
          refine (HLV.out v39 (HE2.out.step HCv39.out)).mono ?_
          rintro ev w' ⟨rfl, bb⟩
          go_wp2
          go_ret
          exact ⟨rfl, HB2.out.trans ((HCv39.out.trans (bb.mono HCv39.out.size)).mono HB2.out.size)⟩
    · go_wp2_with fail
      refine (lbatch_bad a B base b v L X Y Z v33 (HE2.out.step HCv33.out) (HL2.out.below HCv33.out) (by omega) (by omega) (by omega) (by omega) (by omega) (by omega) (by omega)).mono ?_
      rintro ev v41 ⟨rfl, bb⟩
      unfold errV
      have HCv41 : Hid (Below w2.heap.size w2 v41) := Lib.hid (HCv33.out.trans (bb.mono HCv33.out.size))
      have Sv41 : Hid (Below v33.heap.size v33 v41) := Lib.hid bb
      clear bb
      go_wp2_with fail
      refine (HLV.out v41 (HE2.out.step HCv41.out)).mono ?_
      rintro ev w' ⟨rfl, bb⟩
      go_wp2
      go_ret
      exact ⟨rfl, HB2.out.trans ((HCv41.out.trans (bb.mono HCv41.out.size)).mono HB2.out.size)⟩

end Go.Proofs.YtaekabhcgdjhfaaDoor

/- The law ForgeNone where there is no path. Condition: the package-level variables read as listed. -/
namespace Go.Proofs.YtaekabhcgdjhfaaDoor
open Go.ChangeShapes Go.WideShapes Go.ChangeAt Go.RowKit
set_option linter.unusedVariables false
set_option maxRecDepth 100000 in
set_option maxHeartbeats 16000000 in
theorem none_no (a : Nat → Addr) (B : Nat) (D : List ByteArray) (A : Option Addr) (n c X Y Z : Nat) (w : World) (hE : Env B a w) (h : SIn w A n c D) (hX : X < 18446744073709551616) (hY : Y < 18446744073709551616) (hZ : Z < 18446744073709551616) (hg : n + bulk D ≤ 1048576) (h0 : ¬ (X < Z ∧ Z ≤ (keptL D).length)) :
    Calls Tryd.prog 6 #[.slice A n c, .int .u64 X, .int .u64 Y, .int .u64 Z] w fun ev w' => ev = .returned (.bool true) ∧ Below w.heap.size w w' := by
  have HE := Lib.hid hE
  have HD := Lib.hid h
  have hn9 : n ≤ 140737488355328 := h.2.2.2.2.1
  have HG := Lib.hid hg
  clear hE h hg
  go_enter Tryd.func6, Tryd.ntmps6
  go_wp2_with fail
  refine (texts_any D A n c w HD.out).mono ?_
  rintro ev w' ⟨t, rfl, ht9, ht, rfl⟩
  have HT0 := Lib.hid ht
  clear ht
  go_wp2_with fail
  refine (beyond2 n t w (by omega) ht9).mono ?_
  rintro ev w1 ⟨rfl, hw1⟩
  have b1 : Below w.heap.size w w1 := by rw [hw1]; exact (Below.refl _ _).alloc (Nat.le_refl _) _
  clear hw1
  have hgd : decide (1048576 < n + t) = false := by have := HT0.out; have := HG.out; simp; omega
  have hn10 : n ≤ 1048576 := by have := HG.out; omega
  rw [hgd]
  go_wp2_with fail
  refine (logs20_any a B D A n c w1 (HE.out.step b1) (HD.out.below b1) hn10).mono ?_
  rintro ev w2 ⟨b, v, b2, rfl, hL2, bb⟩
  have HL2 := Lib.hid hL2
  have HB2 : Hid (Below w.heap.size w w2) := Lib.hid (b1.trans (bb.mono b1.size))
  have HE2 := Lib.hid (HE.out.step HB2.out)
  have HCw2 : Hid (Below w2.heap.size w2 w2) := Lib.hid (Below.refl _ _)
  have hN9 : (keptL D).length ≤ 1048576 := hL2.1.1
  clear hL2 b1 bb
  obtain ⟨L, hL⟩ : ∃ L, keptL D = L := ⟨_, rfl⟩
  rw [hL] at HL2 h0 hN9
  obtain ⟨base, hbase⟩ : ∃ z, w1.heap.size = z := ⟨_, rfl⟩
  rw [hbase] at HL2
  have HN9 := Lib.hid hN9
  have HLV := Lib.hid (lives20_any a B)
  obtain ⟨vr, evr, Hvr, Zvr, Ivr, Ovr⟩ := row_of (treeB L 0 Z) (treeB_len _ _ _)
  have HROOT : Hid (∀ w, Env B a w → LogAt base b v L w → Z ≤ L.length → Calls Tryd.prog 11 #[.pointer (some ⟨b, 0, none⟩), .int .u64 Z] w fun ev w' => ev = .returned (.tuple #[.agg vr, .nilIface]) ∧ Below w.heap.size w w') := Lib.hid (fun w e q hz => by
    have := lroot_ok a B base b v L Z w e q (by omega) (by omega)
    rw [evr] at this; exact this)
  have HLOK := Lib.hid (show LogOk L from HL2.out.1)
  have HRIGHT : Hid (∀ (s : ByteArray) (w : World), 0 < Z → Z ≤ L.length → bOf s = soB L Z → Env B a w → Calls Tryd.prog 17 #[.string s, .string s, .bool false, .bool true, .agg vr] w fun ev w' => ev = .returned (.bool true) ∧ Below w.heap.size w w') := Lib.hid (fun s w z0 z1 hs e => by
    have := right_any a B s (treeB L 0 Z) w e (by have := soB_len z0 z1 HLOK.out; rw [← hs, bOf_length] at this; omega) (treeB_len _ _ _) (by rw [hs]; exact soB_sha z0 z1 HLOK.out.1)
    rw [evr] at this; exact this)
  clear hL hbase evr
  go_wp2_with fail
  refine (lpath_bad a B base b v L X Z w2 (HE2.out.step HCw2.out) (HL2.out.below HCw2.out) (by omega) (by omega) (by omega) (by omega) (by omega)).mono ?_
  rintro ev v11 ⟨rfl, bb⟩
  unfold errV
  have HCv11 : Hid (Below w2.heap.size w2 v11) := Lib.hid (HCw2.out.trans (bb.mono HCw2.out.size))
  have Sv11 : Hid (Below w2.heap.size w2 v11) := Lib.hid bb
  clear bb
  by_cases h1 : 0 < X ∧ X ≤ Z ∧ Z ≤ L.length
  · obtain ⟨vx, evx, Hvx, Zvx, Ivx, Ovx⟩ := row_of (treeB L 0 X) (treeB_len _ _ _)
    have HRX : Hid (∀ w, Env B a w → LogAt base b v L w → Calls Tryd.prog 11 #[.pointer (some ⟨b, 0, none⟩), .int .u64 X] w fun ev w' => ev = .returned (.tuple #[.agg vx, .nilIface]) ∧ Below w.heap.size w w') := Lib.hid (fun w e q => by
      have := lroot_ok a B base b v L X w e q (by omega) (by omega)
      rw [evx] at this; exact this)
    have HFC : Hid (∀ A m c w, Env B a w → LogAt base b v L w → HIn w A m c (treesB L (proofL 64 X 0 Z)) → Calls Tryd.prog 18 #[.pointer (some ⟨b, 0, none⟩), .int .u64 X, .int .u64 Z, .agg vx, .slice A m c] w fun ev w' => (∃ s, ev = .returned (.tuple #[.string s, .string s, .bool false]) ∧ bOf s = soB L Z) ∧ Below w.heap.size w w') := Lib.hid (fun A m c w e q r => by
      have := fcon_so a B base b v L X Z A m c w e q (by omega) (by omega) (by omega) r
      rw [evx] at this; exact this)
    have HFN : Hid (∀ (g : Nat) (A : Option Addr) (m c : Nat) (w : World), Env B a w → w.cell? ⟨g, 1, none⟩ = some (.bool false) → g < w.heap.size → Calls Tryd.prog 18 #[.pointer (some ⟨g, 0, none⟩), .int .u64 X, .int .u64 Z, .agg vx, .slice A m c] w fun ev w' => ev = .returned (.tuple #[.string ⟨#[]⟩, .string ⟨#[]⟩, .bool false]) ∧ Below w.heap.size w w') := Lib.hid (fun g A m c w e h1 h2 => by
      have := fcon_none (.pointer (some ⟨g, 0, none⟩)) X Z (treeB L 0 X) (treeB_len _ _ _) A m c w (a 1) (fun w' hb => lroot_nil a B g Z w' (e.step hb) (cell_below hb h1 h2))
      rw [evx] at this; exact this)
    have hx1 : (0 : Int) < (X : Int) := by omega
    have hx2 : ((X : Int) == 0) = false := by simp; omega
    clear evx
    go_wp2_with fail
    refine (lproof_ok a B base b v L X Z v11 (HE2.out.step HCv11.out) (HL2.out.below HCv11.out) (by omega) (by omega) (by omega)).mono ?_
    rintro ev v12 ⟨hp32, vv, rfl, ho, bb⟩
    obtain ⟨Aq, cq, rfl, hc0⟩ := own_shape ho
    have HQ := Lib.hid (own_hin ho hp32 rfl)
    clear ho hp32 hc0
    generalize hq : List.length (treesB L _) = mq at HQ ⊢
    clear hq
    have HCv12 : Hid (Below w2.heap.size w2 v12) := Lib.hid (HCv11.out.trans (bb.mono HCv11.out.size))
    have Sv12 : Hid (Below v11.heap.size v11 v12) := Lib.hid bb
    clear bb
    go_wp2_with fail
    refine (HRX.out v12 (HE2.out.step HCv12.out) (HL2.out.below HCv12.out)).mono ?_
    rintro ev v13 ⟨rfl, bb⟩
    have HCv13 : Hid (Below w2.heap.size w2 v13) := Lib.hid (HCv12.out.trans (bb.mono HCv12.out.size))
    have Sv13 : Hid (Below v12.heap.size v12 v13) := Lib.hid bb
    clear bb
    go_upto_region 18 with (refine wpList_store_row_any rfl 34 _ _ rfl v13.heap.size vx rfl rfl 34 _ (heap_at _ _ _ rfl) Ivx.out (by rw [Zvx.out]; rfl) Ovx.out ?_; intro v14 hbN hgN hsN; have bs : Below v13.heap.size v13 v14 := ((Below.refl _ v13).alloc (Nat.le_refl _) _).trans (hbN.to_below (by simp) (fun k hk q => by omega)); have Rv14 := Lib.hid hgN; clear hbN hgN hsN)
    have HCv14 : Hid (Below w2.heap.size w2 v14) := Lib.hid (HCv13.out.trans (bs.mono HCv13.out.size))
    have Sv14 : Hid (Below v13.heap.size v13 v14) := Lib.hid bs
    clear bs
    go_wp2_with (refine wpList_load_row rfl 34 _ rfl v13.heap.size rfl 34 vx (0, 0) _ Rv14.out Tryd.underlying34 rfl Ivx.out ?_)
    refine (HFC.out Aq mq cq v14 (HE2.out.step HCv14.out) (HL2.out.below HCv14.out) (HQ.out.below (Sv13.out.trans (Sv14.out.mono Sv13.out.size)))).mono ?_
    rintro ev v15 ⟨⟨s2, rfl, hs⟩, bb⟩
    have HRs2 : Hid (∀ w, Env B a w → Calls Tryd.prog 17 #[.string s2, .string s2, .bool false, .bool true, .agg vr] w fun ev w' => ev = .returned (.bool true) ∧ Below w.heap.size w w') := Lib.hid (fun w e => HRIGHT.out s2 w (by omega) (by omega) hs e)
    clear hs
    have HCv15 : Hid (Below w2.heap.size w2 v15) := Lib.hid (HCv14.out.trans (bb.mono HCv14.out.size))
    have Sv15 : Hid (Below v14.heap.size v14 v15) := Lib.hid bb
    clear bb
    have RX : Hid ((v15.alloc (.cells #[.slice none 0 0, .bool false] 56)).heap[v13.heap.size]? = some (.cells vx 34 (0, 0))) := Lib.hid ((((Below.refl _ v15).alloc (Nat.le_refl _) _).block _ (Nat.lt_of_lt_of_le (Array.getElem?_eq_some_iff.1 Rv14.out).1 Sv15.out.size)).trans ((Sv15.out.block _ (Array.getElem?_eq_some_iff.1 Rv14.out).1).trans Rv14.out))
    have bd : Below v15.heap.size v15 (v15.alloc (.cells #[.slice none 0 0, .bool false] 56)) := (Below.refl _ _).alloc (Nat.le_refl _) _
    have hcn : (v15.alloc (.cells #[.slice none 0 0, .bool false] 56)).cell? ⟨v15.heap.size, 1, none⟩ = some (.bool false) := cell_new _ _ 1 _ rfl
    have hln : v15.heap.size < (v15.alloc (.cells #[.slice none 0 0, .bool false] 56)).heap.size := by simp
    have HCN := Lib.hid (And.intro (HE2.out.step (HCv15.out.trans (bd.mono HCv15.out.size))) (And.intro hcn hln))
    clear hcn hln
    go_wp2_with (refine wpList_load_row rfl 34 _ rfl v13.heap.size rfl 34 vx (0, 0) _ RX.out Tryd.underlying34 rfl Ivx.out ?_)
    refine (HFN.out v15.heap.size Aq mq cq _ HCN.out.1 HCN.out.2.1 HCN.out.2.2).mono ?_
    rintro ev v16 ⟨rfl, bb⟩
    have bb : Below v15.heap.size v15 v16 := bd.trans (bb.mono bd.size)
    clear bd
    have HCv16 : Hid (Below w2.heap.size w2 v16) := Lib.hid (HCv15.out.trans (bb.mono HCv15.out.size))
    have Sv16 : Hid (Below v15.heap.size v15 v16) := Lib.hid bb
    clear bb
    go_wp2_with fail
    refine (HROOT.out v16 (HE2.out.step HCv16.out) (HL2.out.below HCv16.out) (by omega)).mono ?_
    rintro ev v17 ⟨rfl, bb⟩
    have HCv17 : Hid (Below w2.heap.size w2 v17) := Lib.hid (HCv16.out.trans (bb.mono HCv16.out.size))
    have Sv17 : Hid (Below v16.heap.size v16 v17) := Lib.hid bb
    clear bb
    go_upto_region 21 with (refine wpList_store_row_any rfl 34 _ _ rfl v17.heap.size vr rfl rfl 34 _ (heap_at _ _ _ rfl) Ivr.out (by rw [Zvr.out]; rfl) Ovr.out ?_; intro v18 hbN hgN hsN; have bs : Below v17.heap.size v17 v18 := ((Below.refl _ v17).alloc (Nat.le_refl _) _).trans (hbN.to_below (by simp) (fun k hk q => by omega)); have Rv18 := Lib.hid hgN; clear hbN hgN hsN)
    have HCv18 : Hid (Below w2.heap.size w2 v18) := Lib.hid (HCv17.out.trans (bs.mono HCv17.out.size))
    have Sv18 : Hid (Below v17.heap.size v17 v18) := Lib.hid bs
    clear bs
    have RR : Hid (v18.heap[v17.heap.size]? = some (.cells vr 34 (0, 0))) := Rv18
    go_wp2_with (refine wpList_load_row_g rfl 34 _ rfl v17.heap.size rfl 34 vr (0, 0) _ RR.out Tryd.underlying34 rfl Ivr.out ?_)
    refine (HRs2.out v18 (HE2.out.step HCv18.out)).mono ?_
    rintro ev v19 ⟨rfl, bb⟩
    have HCv19 : Hid (Below w2.heap.size w2 v19) := Lib.hid (HCv18.out.trans (bb.mono HCv18.out.size))
    have Sv19 : Hid (Below v18.heap.size v18 v19) := Lib.hid bb
    clear bb
    by_cases h2 : X < Y ∧ Y ≤ Z ∧ Z ≤ L.length
    · exact absurd ⟨by omega, by omega⟩ h0
    · go_wp2_with fail
      refine (lbatch_bad a B base b v L X Y Z v19 (HE2.out.step HCv19.out) (HL2.out.below HCv19.out) (by omega) (by omega) (by omega) (by omega) (by omega) (by omega) (by omega)).mono ?_
      rintro ev v20 ⟨rfl, bb⟩
      unfold errV
      have HCv20 : Hid (Below w2.heap.size w2 v20) := Lib.hid (HCv19.out.trans (bb.mono HCv19.out.size))
      have Sv20 : Hid (Below v19.heap.size v19 v20) := Lib.hid bb
      clear bb
      go_wp2_with fail
      refine (HLV.out v20 (HE2.out.step HCv20.out)).mono ?_
      rintro ev w' ⟨rfl, bb⟩
      go_wp2
      go_ret
      exact ⟨rfl, HB2.out.trans ((HCv20.out.trans (bb.mono HCv20.out.size)).mono HB2.out.size)⟩
  · go_wp2_with fail
    refine (lproof_bad a B base b v L X Z v11 (HE2.out.step HCv11.out) (HL2.out.below HCv11.out) (by omega) (by omega) (by omega) (by omega) (by omega)).mono ?_
    rintro ev v21 ⟨rfl, bb⟩
    unfold errV
    have HCv21 : Hid (Below w2.heap.size w2 v21) := Lib.hid (HCv11.out.trans (bb.mono HCv11.out.size))
    have Sv21 : Hid (Below v11.heap.size v11 v21) := Lib.hid bb
    clear bb
    by_cases h2 : X < Y ∧ Y ≤ Z ∧ Z ≤ L.length
    · exact absurd ⟨by omega, by omega⟩ h0
    · go_wp2_with fail
      refine (lbatch_bad a B base b v L X Y Z v21 (HE2.out.step HCv21.out) (HL2.out.below HCv21.out) (by omega) (by omega) (by omega) (by omega) (by omega) (by omega) (by omega)).mono ?_
      rintro ev v22 ⟨rfl, bb⟩
      unfold errV
      have HCv22 : Hid (Below w2.heap.size w2 v22) := Lib.hid (HCv21.out.trans (bb.mono HCv21.out.size))
      have Sv22 : Hid (Below v21.heap.size v21 v22) := Lib.hid bb
      clear bb
      go_wp2_with fail
      refine (HLV.out v22 (HE2.out.step HCv22.out)).mono ?_
      rintro ev w' ⟨rfl, bb⟩
      go_wp2
      go_ret
      exact ⟨rfl, HB2.out.trans ((HCv22.out.trans (bb.mono HCv22.out.size)).mono HB2.out.size)⟩

end Go.Proofs.YtaekabhcgdjhfaaDoor

