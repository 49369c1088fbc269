import Derived.Test.YtnpblpbcchminaaGreatDoorKbKrefV
import Derived.Test.YtnpblpbcchminaaGreatDoorKbKrefH
import Derived.Test.YtnpblpbcchminaaGreatDoorKbKeysBytes
import Derived.Test.YtnpblpbcchminaaGreatDoorKbKrefE
/- cartularyref23.Decode. Condition: the table reads as listed. -/
namespace Go.Proofs.YtnpblpbcchminaaGreatDoor
open Go.ChangeShapes Go.WideShapes Go.ChangeAt Go.RowKit
set_option linter.unusedVariables false
theorem own_keep_but {pred : Nat → Prop} {w n : World} {base : Nat} {e : TypeId} {size : Nat} {v : Value} {m : Nat} {xs : List Value} (hb : But pred w n) (h : w.ownsRow base e size v m xs) (hv : ∀ k, v.ownBlock = some k → ¬ pred k) : n.ownsRow base e size v m xs := by
  refine ⟨h.1, ?_⟩
  rcases h.2 with q | ⟨g, cap, cur, h1, h2, h3, h4⟩
  · exact .inl q
  · exact .inr ⟨g, cap, cur, h1, h2, (hb.same g (Array.getElem?_eq_some_iff.1 h3).1 (hv g (by rw [h1]; rfl))).trans h3, h4⟩
theorem qend_st (p : Nat) (S : ByteArray) (o : Option Nat) (w : World) (h : QSt p w S o) :
    Calls Tryz.prog 116 #[.pointer (some ⟨p, 0, none⟩)] w fun ev w' => (∃ c k : Nat, ev = .returned (.agg #[.int .i64 c, .int .i64 k]) ∧ ((o = some S.size ∧ c = 0) ∨ (o ≠ some S.size ∧ c = 3))) ∧ Below w.heap.size w w' := by
  cases o with
  | none => exact (qend_bad p S w h).mono fun ev w' q => ⟨by obtain ⟨k, hk⟩ := q.1; exact ⟨3, k, hk, .inr ⟨by simp, rfl⟩⟩, q.2⟩
  | some i =>
    by_cases hi : i = S.size
    · exact (qend_done p i S w h hi).mono fun ev w' q => ⟨⟨0, 0, q.1, .inl ⟨by rw [hi], rfl⟩⟩, q.2⟩
    · exact (qend_left p i S w h (by have := h.2.1; omega)).mono fun ev w' q => ⟨⟨3, i, q.1, .inr ⟨by simpa using hi, rfl⟩⟩, q.2⟩
theorem field_code (x z : Value) (w : World) : (Instr.field 34 (.agg #[x, z]) 0).run Tryz.prog w = .ok x w := by kernel_rfl
theorem hin_of {w : World} {base n c : Nat} {A : Option Addr} {f : Nat → List UInt8} (hf : ∀ k, (f k).length = 32) (h : w.ownsRow base 23 32 (.slice A n c) n (hashCells ((List.range n).map f))) : HIn w A n c ((List.range n).map f) := by
  obtain ⟨A', c', e, hI⟩ := hin_own (fun z hz => by
    obtain ⟨k, -, rfl⟩ := List.mem_map.1 hz
    exact hf k) (by simp) h
  cases e
  exact hI
set_option maxRecDepth 100000 in
set_option maxHeartbeats 8000000 in
theorem rdec_any (S : ByteArray) (w : World) (hS : S.size ≤ 9223372036854775807) :
    Calls Tryz.prog 29 #[.string S] w fun ev w' => (((decS S).ok S ∧ ∃ A1 c1 A2 c2, ev = .returned (.tuple #[.agg #[.int .i64 (decS S).i, .slice A1 67 c1, .slice A2 (decS S).n c2], faultV 0]) ∧ HIn w' A1 67 c1 ((List.range 67).map (hsS S (decS S).o1)) ∧ HIn w' A2 (decS S).n c2 ((List.range (decS S).n).map (hsS S (decS S).o3))) ∨ (¬ (decS S).ok S ∧ ev = .returned (.tuple #[.agg #[.int .i64 0, .slice none 0 0, .slice none 0 0], faultV 3]))) ∧ Below w.heap.size w w' := by
  obtain ⟨i0, hi, hz0, hz1, hz2⟩ := info_parts info_hash
  obtain ⟨vf, evf, HVF, Zvf, Ivf, Ovf⟩ := fault_of 3
  obtain ⟨v0, ev0, HV0, Zv0, Iv0, Ov0⟩ := fault_of 0
  obtain ⟨zs, hzs9⟩ : ∃ y : Array Value, #[.int .i64 0, .slice none 0 0, .slice none 0 0] = y := ⟨_, rfl⟩
  have Zzs : Hid (zs.size = 3) := Lib.hid (by rw [← hzs9]; rfl)
  have Izs : Hid ((Tryz.prog.info? 26).map (·.size) = some zs.size) := Lib.hid (by rw [Zzs.out]; kernel_rfl)
  have Ozs : Hid (zs.all (·.oneCell') = true) := Lib.hid (by rw [← hzs9]; simp [Value.oneCell'])
  have HZS9 := Lib.hid hzs9.symm
  have PLAIN : Hid (∀ w, Calls Tryz.prog 17 #[.int .i64 3] w fun ev w' => ev = .returned (.agg vf) ∧ Below w.heap.size w w') := Lib.hid (fun w => by rw [← evf]; exact plain18 3 (by decide) (by decide) w)
  have EVF := Lib.hid evf
  have EVZ := Lib.hid ev0
  obtain ⟨wv, hwv⟩ : ∃ y9 : World, ((((w.alloc (.cells #[.int .i64 0, .slice none 0 0, .slice none 0 0] 26)).alloc (.cells #[.int .i64 0, .int .i64 0] 34)).alloc (.cells #[.string S, .int .i64 0, .int .i64 0, .int .i64 0] 126)).alloc (.cells #[.int .i64 0, .slice none 0 0, .slice none 0 0] 26)) = y9 := ⟨_, rfl⟩
  have HBv : Hid (Below w.heap.size w wv) := Lib.hid (by rw [← hwv]; exact (((((Below.refl _ _).alloc (by simp <;> omega) _).alloc (by simp <;> omega) _).alloc (by simp <;> omega) _).alloc (by simp <;> omega) _))
  have HSV : Hid (wv.heap.size = w.heap.size + 4) := Lib.hid (by rw [← hwv]; simp)
  have RZ : Hid (wv.heap[w.heap.size]? = some (.cells #[.int .i64 0, .slice none 0 0, .slice none 0 0] 26 (0, 0))) := Lib.hid (by rw [← hwv]; exact (((((Below.refl (w.alloc (.cells #[.int .i64 0, .slice none 0 0, .slice none 0 0] 26)).heap.size (w.alloc (.cells #[.int .i64 0, .slice none 0 0, .slice none 0 0] 26))).alloc (Nat.le_refl _) _).alloc (by simp <;> omega) _).alloc (by simp <;> omega) _).block w.heap.size (by simp <;> omega)).trans (heap_at _ _ _ (by simp <;> omega)))
  have RF : Hid (wv.heap[(w.heap.size + 1)]? = some (.cells #[.int .i64 0, .int .i64 0] 34 (0, 0))) := Lib.hid (by rw [← hwv]; exact ((((Below.refl ((w.alloc (.cells #[.int .i64 0, .slice none 0 0, .slice none 0 0] 26)).alloc (.cells #[.int .i64 0, .int .i64 0] 34)).heap.size ((w.alloc (.cells #[.int .i64 0, .slice none 0 0, .slice none 0 0] 26)).alloc (.cells #[.int .i64 0, .int .i64 0] 34))).alloc (Nat.le_refl _) _).alloc (by simp <;> omega) _).block (w.heap.size + 1) (by simp <;> omega)).trans (heap_at _ _ _ (by simp <;> omega)))
  have RP : Hid (wv.heap[(w.heap.size + 2)]? = some (.cells #[.string S, .int .i64 0, .int .i64 0, .int .i64 0] 126 (0, 0))) := Lib.hid (by rw [← hwv]; exact (((Below.refl (((w.alloc (.cells #[.int .i64 0, .slice none 0 0, .slice none 0 0] 26)).alloc (.cells #[.int .i64 0, .int .i64 0] 34)).alloc (.cells #[.string S, .int .i64 0, .int .i64 0, .int .i64 0] 126)).heap.size (((w.alloc (.cells #[.int .i64 0, .slice none 0 0, .slice none 0 0] 26)).alloc (.cells #[.int .i64 0, .int .i64 0] 34)).alloc (.cells #[.string S, .int .i64 0, .int .i64 0, .int .i64 0] 126))).alloc (Nat.le_refl _) _).block (w.heap.size + 2) (by simp <;> omega)).trans (heap_at _ _ _ (by simp <;> omega)))
  have RQ : Hid (wv.heap[(w.heap.size + 3)]? = some (.cells #[.int .i64 0, .slice none 0 0, .slice none 0 0] 26 (0, 0))) := Lib.hid (by rw [← hwv]; exact heap_at _ _ _ (by simp <;> omega))
  have HWV := Lib.hid hwv
  have hsv := HSV.out
  obtain ⟨p, hp⟩ : ∃ p, w.heap.size + 2 = p := ⟨_, rfl⟩
  obtain ⟨sb, hsb⟩ : ∃ p, w.heap.size + 3 = p := ⟨_, rfl⟩
  have RPp : Hid (wv.heap[p]? = some (.cells #[.string S, .int .i64 0, .int .i64 0, .int .i64 0] 126 (0, 0))) := Lib.hid (by rw [← hp]; exact RP.out)
  have RQs : Hid (wv.heap[sb]? = some (.cells #[.int .i64 0, .slice none 0 0, .slice none 0 0] 26 (0, 0))) := Lib.hid (by rw [← hsb]; exact RQ.out)
  have HO : Hid (w.heap.size + 1 < p ∧ p < sb ∧ sb < wv.heap.size) := Lib.hid ⟨by omega, by omega, by omega⟩
  have HP : Hid (p = w.heap.size + 2 ∧ sb = w.heap.size + 3) := Lib.hid ⟨hp.symm, hsb.symm⟩
  have HBW0 : Hid (∀ w', Below p wv w' → Below w.heap.size w w') := Lib.hid (fun w' hb => HBv.out.trans (hb.mono (by have := HO.out; omega)))
  obtain ⟨d, hd⟩ : ∃ d, varS S (some 0) = d := ⟨_, rfl⟩
  have HD := Lib.hid hd
  have HV1 : Hid (Calls Tryz.prog 114 #[.pointer (some ⟨p, 0, none⟩)] wv fun ev w' => ev = .returned (.int .u64 d.1) ∧ QSt p w' S d.2 ∧ But (· = p) wv w') := Lib.hid (by
    have := qvar_st p S (some 0) wv ⟨RPp.out, Nat.zero_le _, hS⟩
    rw [hd] at this; exact this)
  clear hwv hzs9 evf ev0 hd hS
  go_enter Tryz.func29, Tryz.ntmps29
  go_upto_region 3 with fail
  rw [HWV.out]
  rw [show p + 1 = sb by have := HP.out; omega]
  clear hp hsb
  go_wp2_with fail
  refine HV1.out.mono ?_
  rintro ev w2 ⟨rfl, hr2, b2⟩
  have HR2 := Lib.hid hr2
  have HSw2 : Hid (sb < w2.heap.size) := Lib.hid (by have := b2.size; have := HO.out; omega)
  have HSwv : Hid (sb < w2.heap.size) := HSw2
  have B2 : Hid (Below p wv w2) := Lib.hid (b2.to_below (by have := HO.out; omega) (fun k hk q => by omega))
  have R2 : Hid (w2.heap[sb]? = some (.cells #[.int .i64 0, .slice none 0 0, .slice none 0 0] 26 (0, 0))) := Lib.hid ((b2.same _ HO.out.2.2 (by have := HO.out; omega)).trans RQs.out)
  clear hr2 b2
  go_wp2_with fail
  go_loopw [7] (fun c wr => ∃ (j : Nat) (v : Value), j ≤ 67 ∧ c = .int .i64 j ∧ Hid (wr.ownsRow w2.heap.size 23 32 v j (hashCells ((List.range j).map (hsS S d.2)))) ∧ Hid (wr.heap[sb]? = some (.cells #[.int .i64 0, v, .slice none 0 0] 26 (0, 0))) ∧ Hid (QSt p wr S (stS S d.2 j)) ∧ Hid (But (fun b => b = p ∨ b = sb) w2 wr)) (fun c _ => 67 - (intOf c).toNat)
  case atStart => exact ⟨0, .slice none 0 0, Nat.zero_le _, rfl, Lib.hid (World.ownsRow_nil _ _ _ _), R2, HR2, Lib.hid (But.refl _ _)⟩
  case round =>
    obtain ⟨j, v, hj, rfl, OWN, HR, HST, HB⟩ := hrel
    have hsr := HB.out.size
    obtain ⟨ho1, ho2, ho3⟩ := HO.out
    have hs6 := HSw2.out
    have HLT := Lib.hid (fun k q => (OWN.out.lt k q).1)
    have HNB : Hid (v.ownBlock ≠ some sb) := Lib.hid (fun q => by have := HLT.out _ q; omega)
    have HNP : Hid (v.ownBlock ≠ some p) := Lib.hid (fun q => by have := HLT.out _ q; omega)
    by_cases hlt : j < 67
    · have HPO : Hid (∀ k, k < w2.heap.size → (k = p ∨ k = sb ∨ v.ownBlock = some k) → (k = p ∨ k = sb)) := Lib.hid (fun k hk q => by
        rcases q with q | q | q
        · exact .inl q
        · exact .inr q
        · have := HLT.out k q; omega)
      obtain ⟨vn, evn, Hvn, Zvn, Ivn, Ovn⟩ := row_of (hsS S d.2 j) (hsS_length _ _ _)
      have HH2 : Hid (∀ w', QSt p w' S (stS S d.2 j) → Calls Tryz.prog 115 #[.pointer (some ⟨p, 0, none⟩)] w' fun ev w2 => ev = .returned (.agg vn) ∧ QSt p w2 S (stS S d.2 (j + 1)) ∧ But (· = p) w' w2) := Lib.hid (fun w' h => by
        have := qhash_st p S (stS S d.2 j) w' h
        rw [show hv (hashS S (stS S d.2 j)).1 = .agg vn from evn] at this; exact this)
      obtain ⟨rv, hrv, hrc⟩ := HST.out.row
      have HRV := Lib.hid hrv
      have HRC := Lib.hid hrc
      have HSN : Hid (∀ (w' : World) (v9 : Value), w'.ownsRow w2.heap.size 23 32 v9 (j + 1) (hashCells ((List.range j).map (hsS S d.2)) ++ hashCells [hsS S d.2 j]) → Hid (w'.ownsRow w2.heap.size 23 32 v9 (j + 1) (hashCells ((List.range (j + 1)).map (hsS S d.2))))) := Lib.hid (fun w' v9 h => Lib.hid (by
        rw [List.range_succ, List.map_append]
        rw [← hashCells_append] at h
        exact h))
      have k0 : (0 : Int) ≤ j := by omega
      have k1 : (j : Int) < 67 := by omega
      clear evn hrv hrc
      go_upto_region 7 with fail
      refine wp_region_held_drew (S := But (fun k => k = p ∨ k = sb ∨ v.ownBlock = some k) wr) (by kernel_rfl) (But.refl _ _).drew (fun hHeld => ?_)
      refine tk (i := 0) (v := ?v10) rfl ?y10 ?r10
      case y10 => (intro w hSw; (try dsimp only at hSw); go_simp; (try with_reducible rfl))
      try simp only [pu]
      refine tk (i := 2) (v := ?v11) rfl ?y11 ?r11
      case y11 => (intro w hSw; (try dsimp only at hSw); go_simp; (try with_reducible rfl))
      try simp only [pu]
      refine wpAnyH_ready (rs := [1, 3]) (by kernel_rfl) (by simp) ?_
      refine AllReadyH.cons (i := 1) rfl (fun K2 hK2 => ?_) ?more12
      · skip
        have z0 : wr.drew.cell? ⟨sb, 1, none⟩ = some v := (cell_of_row wr.drew sb 1 _ 26 (0, 0) (show wr.drew.heap[sb]? = _ from HR.out)).trans rfl
        go_simp
        refine hK2.out _ _ ((But.refl (fun k => k = p ∨ k = sb ∨ v.ownBlock = some k) wr).drew) (fun hHeld2 => ?_)
        clear hK2 K2
        try simp only [pu]
        refine wpAnyH_ready (rs := [3]) (by kernel_rfl) (by simp) ?_
        refine AllReadyH.cons (i := 3) rfl (fun K2 hK2 => ?_) AllReadyH.nil
        go_simp
        go_at_call 115
        refine (HH2.out wr.drew (HRC.out wr.drew (show wr.drew.heap[p]? = _ from HRV.out))).mono ?_
        rintro ev w712 ⟨rfl, hR9, b9⟩
        try go_wp2_with fail
        have Kw712 := Lib.hid (But.step ((But.refl (fun k => k = p ∨ k = sb ∨ v.ownBlock = some k) wr).drew) b9 (fun k _ y => .inl y))
        have Tw712_0 := Lib.hid ((b9.same _ (Array.getElem?_eq_some_iff.1 (show wr.drew.heap[sb]? = _ from HR.out)).1 (by omega)).trans (show wr.drew.heap[sb]? = _ from HR.out))
        obtain ⟨rv9, hrv9, hrc9⟩ := QSt.row (show QSt p w712 S _ from hR9)
        have Tw712_p := Lib.hid hrv9
        have HRC9 := Lib.hid hrc9
        have Ow712 := Lib.hid (own_keep_ne (b := p) (fun k x hk hx => (b9.same k (Array.getElem?_eq_some_iff.1 hx).1 hk).trans hx) (own_drew OWN.out) HNP.out)
        clear hR9 b9 hrv9 hrc9
        refine hK2.out _ _ Kw712.out (fun hHeld2 => ?_)
        clear hK2 K2
        try simp only [pu]
        refine wpAnyH_ready (rs := [4]) (by kernel_rfl) (by simp) ?_
        refine AllReadyH.cons (i := 4) rfl (fun K2 hK2 => ?_) AllReadyH.nil
        rw [if_pos (by rfl)]
        refine wp_buildSlice_row 24 23 _ vn _ 32 rfl rfl Tryz.underlying24 Tryz.sizeOf23 Tryz.zeroValue23 rfl Zvn.out (by omega) (by omega) ?_
        obtain ⟨w713, hw713⟩ : ∃ x, (w712.alloc (.cells vn 23)) = x := ⟨_, rfl⟩
        obtain ⟨g713, hg713⟩ : ∃ x, w712.heap.size = x := ⟨_, rfl⟩
        obtain ⟨Kw713, Tw713_2, qw713, fw713⟩ := st_alloc Kw712.out hw713 hg713
        rw [hw713, hg713]; clear hw713 hg713
        have Kw713 := Lib.hid Kw713
        have Tw713_2 := Lib.hid Tw713_2
        obtain ⟨Tw713_0, dw713_0⟩ := fw713 _ _ Tw712_0.out
        have Tw713_0 := Lib.hid Tw713_0
        obtain ⟨Tw713_1, dw713_1⟩ := fw713 _ _ Tw712_p.out
        have Tw713_1 := Lib.hid Tw713_1
        have Ow713 := Lib.hid (own_keep (fun k x h => (fw713 k x h).1) Ow712.out)
        clear fw713
        refine hK2.out _ _ Kw713.out (fun hHeld2 => ?_)
        clear hK2 K2
        try simp only [pu]
        refine wpAnyH_ready (rs := [5]) (by kernel_rfl) (by simp) ?_
        refine AllReadyH.cons (i := 5) rfl (fun K2 hK2 => ?_) AllReadyH.nil
        rw [if_pos (by rfl)]
        refine wp_append_list _ _ 24 rfl w2.heap.size _ 23 i0 _ 32 32 Tryz.underlying24 hi hz0 hz1 hz2 rfl (by decide) v (.slice (some ⟨g713, 0, none⟩) 1 1) j 1 (hashCells ((List.range j).map (hsS S d.2))) (hashCells [(hsS S d.2 j)]) rfl rfl Ow713.out (own_at (hsS S d.2 j) Tw713_2.out Hvn.out Zvn.out) (hashCells_cell _) (by unfold maxLen; omega) (by omega) (by have := (Kw713.out).size; omega) ?_
        intro v9 w714 o9 g9 a9
        obtain ⟨A9, C9, rfl, hC9⟩ := own_shape o9
        obtain ⟨Kw714, fw714⟩ := st_grow Kw713.out g9 (fun k q => .inr (.inr q))
        have Kw714 := Lib.hid Kw714
        have Ow714 := Lib.hid o9
        have Tw714_0 := Lib.hid (fw714 _ _ HNB.out Tw713_0.out)
        have Tw714_1 := Lib.hid (fw714 _ _ HNP.out Tw713_1.out)
        have HNB9 : (Value.slice A9 (j + 1) C9).ownBlock ≠ some sb := by
          rcases a9 with q | q
          · rw [q]; exact HNB.out
          · rw [q]; intro e; injection e with e; have := (Kw713.out).size; omega
        clear fw714 o9 g9 a9
        refine hK2.out _ _ Kw714.out (fun hHeld2 => ?_)
        clear hK2 K2
        try simp only [pu]
        refine tk (i := 6) (v := ?v13) rfl ?y13 ?r13
        case y13 => (intro w hSw; (try dsimp only at hSw); go_simp; (try with_reducible rfl))
        try simp only [pu]
        refine wpAnyH_ready (rs := [7]) (by kernel_rfl) (by simp) ?_
        refine AllReadyH.cons (i := 7) rfl (fun K2 hK2 => ?_) AllReadyH.nil
        have c9 : w714.cell? ⟨sb, 1, none⟩ = some v := (cell_of_row w714 sb 1 _ 26 (0, 0) Tw714_0.out).trans rfl
        have f9 := frozen_of_row w714 sb 1 _ 26 Tw714_0.out
        go_simp
        obtain ⟨w715, hw715⟩ : ∃ x, w714.setCell ⟨sb, 1, none⟩ (Value.slice A9 (j + 1) C9) = x := ⟨_, rfl⟩
        obtain ⟨Kw715, Tw715_0, fw715⟩ := st_cell Kw714.out hw715 (fun _ => .inr (.inl rfl)) Tw714_0.out
        have Kw715 := Lib.hid Kw715
        have Tw715_0 := Lib.hid Tw715_0
        have Tw715_1 := Lib.hid (fw715 _ _ (by omega) Tw714_1.out)
        have Ow715 := Lib.hid (own_keep_ne fw715 Ow714.out HNB9)
        clear fw715
        rw [hw715]
        clear hw715
        refine hK2.out _ _ Kw715.out (fun hHeld2 => ?_)
        clear hK2 K2
        try simp only [pu]
        refine wpAnyH_done (by kernel_rfl) ?_ _
        have KE := Lib.hid Kw715.out
        have TE := Lib.hid Tw715_0.out
        have TR := Lib.hid (HRC9.out _ Tw715_1.out)
        have OE := Lib.hid Ow715.out
        go_wp2
        go_roundw
        case rel => exact ⟨j + 1, _, by omega, by go_num, HSN.out _ _ OE.out, Lib.hid TE.out, TR, Lib.hid (HB.out.step KE.out (fun k hk q => HPO.out k hk q))⟩
        case measure => simp [intOf]; omega

      refine AllReadyH.cons (i := 3) rfl (fun K2 hK2 => ?_) ?more14
      · skip
        go_simp
        go_at_call 115
        refine (HH2.out wr.drew (HRC.out wr.drew (show wr.drew.heap[p]? = _ from HRV.out))).mono ?_
        rintro ev w716 ⟨rfl, hR9, b9⟩
        try go_wp2_with fail
        have Kw716 := Lib.hid (But.step ((But.refl (fun k => k = p ∨ k = sb ∨ v.ownBlock = some k) wr).drew) b9 (fun k _ y => .inl y))
        have Tw716_0 := Lib.hid ((b9.same _ (Array.getElem?_eq_some_iff.1 (show wr.drew.heap[sb]? = _ from HR.out)).1 (by omega)).trans (show wr.drew.heap[sb]? = _ from HR.out))
        obtain ⟨rv9, hrv9, hrc9⟩ := QSt.row (show QSt p w716 S _ from hR9)
        have Tw716_p := Lib.hid hrv9
        have HRC9 := Lib.hid hrc9
        have Ow716 := Lib.hid (own_keep_ne (b := p) (fun k x hk hx => (b9.same k (Array.getElem?_eq_some_iff.1 hx).1 hk).trans hx) (own_drew OWN.out) HNP.out)
        clear hR9 b9 hrv9 hrc9
        refine hK2.out _ _ Kw716.out (fun hHeld2 => ?_)
        clear hK2 K2
        try simp only [pu]
        refine wpAnyH_ready (rs := [1, 4]) (by kernel_rfl) (by simp) ?_
        refine AllReadyH.cons (i := 1) rfl (fun K2 hK2 => ?_) ?more15
        · skip
          have z0 : w716.cell? ⟨sb, 1, none⟩ = some v := (cell_of_row w716 sb 1 _ 26 (0, 0) Tw716_0.out).trans rfl
          go_simp
          refine hK2.out _ _ Kw716.out (fun hHeld2 => ?_)
          clear hK2 K2
          try simp only [pu]
          refine wpAnyH_ready (rs := [4]) (by kernel_rfl) (by simp) ?_
          refine AllReadyH.cons (i := 4) rfl (fun K2 hK2 => ?_) AllReadyH.nil
          rw [if_pos (by rfl)]
          refine wp_buildSlice_row 24 23 _ vn _ 32 rfl rfl Tryz.underlying24 Tryz.sizeOf23 Tryz.zeroValue23 rfl Zvn.out (by omega) (by omega) ?_
          obtain ⟨w717, hw717⟩ : ∃ x, (w716.alloc (.cells vn 23)) = x := ⟨_, rfl⟩
          obtain ⟨g717, hg717⟩ : ∃ x, w716.heap.size = x := ⟨_, rfl⟩
          obtain ⟨Kw717, Tw717_2, qw717, fw717⟩ := st_alloc Kw716.out hw717 hg717
          rw [hw717, hg717]; clear hw717 hg717
          have Kw717 := Lib.hid Kw717
          have Tw717_2 := Lib.hid Tw717_2
          obtain ⟨Tw717_0, dw717_0⟩ := fw717 _ _ Tw716_0.out
          have Tw717_0 := Lib.hid Tw717_0
          obtain ⟨Tw717_1, dw717_1⟩ := fw717 _ _ Tw716_p.out
          have Tw717_1 := Lib.hid Tw717_1
          have Ow717 := Lib.hid (own_keep (fun k x h => (fw717 k x h).1) Ow716.out)
          clear fw717
          refine hK2.out _ _ Kw717.out (fun hHeld2 => ?_)
          clear hK2 K2
          try simp only [pu]
          refine wpAnyH_ready (rs := [5]) (by kernel_rfl) (by simp) ?_
          refine AllReadyH.cons (i := 5) rfl (fun K2 hK2 => ?_) AllReadyH.nil
          rw [if_pos (by rfl)]
          refine wp_append_list _ _ 24 rfl w2.heap.size _ 23 i0 _ 32 32 Tryz.underlying24 hi hz0 hz1 hz2 rfl (by decide) v (.slice (some ⟨g717, 0, none⟩) 1 1) j 1 (hashCells ((List.range j).map (hsS S d.2))) (hashCells [(hsS S d.2 j)]) rfl rfl Ow717.out (own_at (hsS S d.2 j) Tw717_2.out Hvn.out Zvn.out) (hashCells_cell _) (by unfold maxLen; omega) (by omega) (by have := (Kw717.out).size; omega) ?_
          intro v9 w718 o9 g9 a9
          obtain ⟨A9, C9, rfl, hC9⟩ := own_shape o9
          obtain ⟨Kw718, fw718⟩ := st_grow Kw717.out g9 (fun k q => .inr (.inr q))
          have Kw718 := Lib.hid Kw718
          have Ow718 := Lib.hid o9
          have Tw718_0 := Lib.hid (fw718 _ _ HNB.out Tw717_0.out)
          have Tw718_1 := Lib.hid (fw718 _ _ HNP.out Tw717_1.out)
          have HNB9 : (Value.slice A9 (j + 1) C9).ownBlock ≠ some sb := by
            rcases a9 with q | q
            · rw [q]; exact HNB.out
            · rw [q]; intro e; injection e with e; have := (Kw717.out).size; omega
          clear fw718 o9 g9 a9
          refine hK2.out _ _ Kw718.out (fun hHeld2 => ?_)
          clear hK2 K2
          try simp only [pu]
          refine tk (i := 6) (v := ?v16) rfl ?y16 ?r16
          case y16 => (intro w hSw; (try dsimp only at hSw); go_simp; (try with_reducible rfl))
          try simp only [pu]
          refine wpAnyH_ready (rs := [7]) (by kernel_rfl) (by simp) ?_
          refine AllReadyH.cons (i := 7) rfl (fun K2 hK2 => ?_) AllReadyH.nil
          have c9 : w718.cell? ⟨sb, 1, none⟩ = some v := (cell_of_row w718 sb 1 _ 26 (0, 0) Tw718_0.out).trans rfl
          have f9 := frozen_of_row w718 sb 1 _ 26 Tw718_0.out
          go_simp
          obtain ⟨w719, hw719⟩ : ∃ x, w718.setCell ⟨sb, 1, none⟩ (Value.slice A9 (j + 1) C9) = x := ⟨_, rfl⟩
          obtain ⟨Kw719, Tw719_0, fw719⟩ := st_cell Kw718.out hw719 (fun _ => .inr (.inl rfl)) Tw718_0.out
          have Kw719 := Lib.hid Kw719
          have Tw719_0 := Lib.hid Tw719_0
          have Tw719_1 := Lib.hid (fw719 _ _ (by omega) Tw718_1.out)
          have Ow719 := Lib.hid (own_keep_ne fw719 Ow718.out HNB9)
          clear fw719
          rw [hw719]
          clear hw719
          refine hK2.out _ _ Kw719.out (fun hHeld2 => ?_)
          clear hK2 K2
          try simp only [pu]
          refine wpAnyH_done (by kernel_rfl) ?_ _
          have KE := Lib.hid Kw719.out
          have TE := Lib.hid Tw719_0.out
          have TR := Lib.hid (HRC9.out _ Tw719_1.out)
          have OE := Lib.hid Ow719.out
          go_wp2
          go_roundw
          case rel => exact ⟨j + 1, _, by omega, by go_num, HSN.out _ _ OE.out, Lib.hid TE.out, TR, Lib.hid (HB.out.step KE.out (fun k hk q => HPO.out k hk q))⟩
          case measure => simp [intOf]; omega
        
        refine AllReadyH.cons (i := 4) rfl (fun K2 hK2 => ?_) ?more17
        · skip
          rw [if_pos (by rfl)]
          refine wp_buildSlice_row 24 23 _ vn _ 32 rfl rfl Tryz.underlying24 Tryz.sizeOf23 Tryz.zeroValue23 rfl Zvn.out (by omega) (by omega) ?_
          obtain ⟨w720, hw720⟩ : ∃ x, (w716.alloc (.cells vn 23)) = x := ⟨_, rfl⟩
          obtain ⟨g720, hg720⟩ : ∃ x, w716.heap.size = x := ⟨_, rfl⟩
          obtain ⟨Kw720, Tw720_2, qw720, fw720⟩ := st_alloc Kw716.out hw720 hg720
          rw [hw720, hg720]; clear hw720 hg720
          have Kw720 := Lib.hid Kw720
          have Tw720_2 := Lib.hid Tw720_2
          obtain ⟨Tw720_0, dw720_0⟩ := fw720 _ _ Tw716_0.out
          have Tw720_0 := Lib.hid Tw720_0
          obtain ⟨Tw720_1, dw720_1⟩ := fw720 _ _ Tw716_p.out
          have Tw720_1 := Lib.hid Tw720_1
          have Ow720 := Lib.hid (own_keep (fun k x h => (fw720 k x h).1) Ow716.out)
          clear fw720
          refine hK2.out _ _ Kw720.out (fun hHeld2 => ?_)
          clear hK2 K2
          try simp only [pu]
          refine wpAnyH_ready (rs := [1]) (by kernel_rfl) (by simp) ?_
          refine AllReadyH.cons (i := 1) rfl (fun K2 hK2 => ?_) AllReadyH.nil
          have z0 : w720.cell? ⟨sb, 1, none⟩ = some v := (cell_of_row w720 sb 1 _ 26 (0, 0) Tw720_0.out).trans rfl
          go_simp
          refine hK2.out _ _ Kw720.out (fun hHeld2 => ?_)
          clear hK2 K2
          try simp only [pu]
          refine wpAnyH_ready (rs := [5]) (by kernel_rfl) (by simp) ?_
          refine AllReadyH.cons (i := 5) rfl (fun K2 hK2 => ?_) AllReadyH.nil
          rw [if_pos (by rfl)]
          refine wp_append_list _ _ 24 rfl w2.heap.size _ 23 i0 _ 32 32 Tryz.underlying24 hi hz0 hz1 hz2 rfl (by decide) v (.slice (some ⟨g720, 0, none⟩) 1 1) j 1 (hashCells ((List.range j).map (hsS S d.2))) (hashCells [(hsS S d.2 j)]) rfl rfl Ow720.out (own_at (hsS S d.2 j) Tw720_2.out Hvn.out Zvn.out) (hashCells_cell _) (by unfold maxLen; omega) (by omega) (by have := (Kw720.out).size; omega) ?_
          intro v9 w721 o9 g9 a9
          obtain ⟨A9, C9, rfl, hC9⟩ := own_shape o9
          obtain ⟨Kw721, fw721⟩ := st_grow Kw720.out g9 (fun k q => .inr (.inr q))
          have Kw721 := Lib.hid Kw721
          have Ow721 := Lib.hid o9
          have Tw721_0 := Lib.hid (fw721 _ _ HNB.out Tw720_0.out)
          have Tw721_1 := Lib.hid (fw721 _ _ HNP.out Tw720_1.out)
          have HNB9 : (Value.slice A9 (j + 1) C9).ownBlock ≠ some sb := by
            rcases a9 with q | q
            · rw [q]; exact HNB.out
            · rw [q]; intro e; injection e with e; have := (Kw720.out).size; omega
          clear fw721 o9 g9 a9
          refine hK2.out _ _ Kw721.out (fun hHeld2 => ?_)
          clear hK2 K2
          try simp only [pu]
          refine tk (i := 6) (v := ?v18) rfl ?y18 ?r18
          case y18 => (intro w hSw; (try dsimp only at hSw); go_simp; (try with_reducible rfl))
          try simp only [pu]
          refine wpAnyH_ready (rs := [7]) (by kernel_rfl) (by simp) ?_
          refine AllReadyH.cons (i := 7) rfl (fun K2 hK2 => ?_) AllReadyH.nil
          have c9 : w721.cell? ⟨sb, 1, none⟩ = some v := (cell_of_row w721 sb 1 _ 26 (0, 0) Tw721_0.out).trans rfl
          have f9 := frozen_of_row w721 sb 1 _ 26 Tw721_0.out
          go_simp
          obtain ⟨w722, hw722⟩ : ∃ x, w721.setCell ⟨sb, 1, none⟩ (Value.slice A9 (j + 1) C9) = x := ⟨_, rfl⟩
          obtain ⟨Kw722, Tw722_0, fw722⟩ := st_cell Kw721.out hw722 (fun _ => .inr (.inl rfl)) Tw721_0.out
          have Kw722 := Lib.hid Kw722
          have Tw722_0 := Lib.hid Tw722_0
          have Tw722_1 := Lib.hid (fw722 _ _ (by omega) Tw721_1.out)
          have Ow722 := Lib.hid (own_keep_ne fw722 Ow721.out HNB9)
          clear fw722
          rw [hw722]
          clear hw722
          refine hK2.out _ _ Kw722.out (fun hHeld2 => ?_)
          clear hK2 K2
          try simp only [pu]
          refine wpAnyH_done (by kernel_rfl) ?_ _
          have KE := Lib.hid Kw722.out
          have TE := Lib.hid Tw722_0.out
          have TR := Lib.hid (HRC9.out _ Tw722_1.out)
          have OE := Lib.hid Ow722.out
          go_wp2
          go_roundw
          case rel => exact ⟨j + 1, _, by omega, by go_num, HSN.out _ _ OE.out, Lib.hid TE.out, TR, Lib.hid (HB.out.step KE.out (fun k hk q => HPO.out k hk q))⟩
          case measure => simp [intOf]; omega
        
        exact AllReadyH.nil

      exact AllReadyH.nil
    · have hj67 : j = 67 := by omega
      obtain rfl : j = 67 := by omega
      obtain ⟨A0, c0, hA0, -⟩ := hin_own (n := 67) (l := (List.range 67).map (hsS S d.2)) (fun z hz => by
        obtain ⟨k, -, rfl⟩ := List.mem_map.1 hz
        exact hsS_length _ _ _) (by simp) OWN.out
      subst hA0
      obtain ⟨e, he⟩ : ∃ e, varS S (stS S d.2 67) = e := ⟨_, rfl⟩
      have HDE : Hid (decS S = ⟨d.1, d.2, e.1, e.2, stS S e.2 (min e.1 6)⟩) := Lib.hid (by unfold decS; simp only [HD.out, he])
      have HV2 := qvar_st p S (stS S d.2 67) wr HST.out
      rw [he] at HV2
      have HV2 := Lib.hid HV2
      obtain ⟨wo, rfl⟩ : ∃ x, x = wr := ⟨_, rfl⟩
      have HBo := HB
      have HRo := HR
      have OWo := OWN
      have HLo := HLT
      have BWo : Hid (Below p wv wo) := Lib.hid (B2.out.trans (HBo.out.to_below (by have := B2.out.size; omega) (fun k hk y => by rcases y with y | y <;> omega)))
      clear he hlt hj HB HR OWN HLT HNB HNP HST
      go_wp2_with fail
      refine HV2.out.mono ?_
      rintro ev w6 ⟨rfl, hr6, b6⟩
      have HR6 := Lib.hid hr6
      have HSw6 : Hid (sb < w6.heap.size) := Lib.hid (by have := b6.size; have := (Array.getElem?_eq_some_iff.1 HRo.out).1; omega)
      have B6 : Hid (Below p wv w6) := Lib.hid (BWo.out.trans (b6.to_below (by omega) (fun k hk q => by omega)))
      have R6 : Hid (w6.heap[sb]? = some (.cells #[.int .i64 0, .slice A0 67 c0, .slice none 0 0] 26 (0, 0))) := Lib.hid ((b6.same _ (Array.getElem?_eq_some_iff.1 HRo.out).1 (by omega)).trans HRo.out)
      have OV6 : Hid (w6.ownsRow w2.heap.size 23 32 (.slice A0 67 c0) 67 (hashCells ((List.range 67).map (hsS S d.2)))) := Lib.hid (own_keep_ne (b := p) (fun k x hk hx => (b6.same k (Array.getElem?_eq_some_iff.1 hx).1 hk).trans hx) OWo.out (fun q => by have := (OWo.out.lt _ q).1; omega))
      clear hr6 b6
      go_wp2_with fail
      go_loopw [9] (fun c wr => ∃ (j : Nat) (v : Value), j ≤ (min e.1 7) ∧ c = .int .u64 j ∧ Hid (wr.ownsRow w6.heap.size 23 32 v j (hashCells ((List.range j).map (hsS S e.2)))) ∧ Hid (wr.heap[sb]? = some (.cells #[.int .i64 0, .slice A0 67 c0, v] 26 (0, 0))) ∧ Hid (QSt p wr S (stS S e.2 j)) ∧ Hid (But (fun b => b = p ∨ b = sb) w6 wr)) (fun c _ => (min e.1 7) - (intOf c).toNat)
      case atStart => exact ⟨0, .slice none 0 0, Nat.zero_le _, rfl, Lib.hid (World.ownsRow_nil _ _ _ _), R6, HR6, Lib.hid (But.refl _ _)⟩
      case round =>
        obtain ⟨j, v, hj, rfl, OWN, HR, HST, HB⟩ := hrel
        have hsr := HB.out.size
        obtain ⟨ho1, ho2, ho3⟩ := HO.out
        have hs6 := HSw6.out
        have HLT := Lib.hid (fun k q => (OWN.out.lt k q).1)
        have HNB : Hid (v.ownBlock ≠ some sb) := Lib.hid (fun q => by have := HLT.out _ q; omega)
        have HNP : Hid (v.ownBlock ≠ some p) := Lib.hid (fun q => by have := HLT.out _ q; omega)
        by_cases hlt : j < e.1 ∧ j ≤ 6
        · have HPO : Hid (∀ k, k < w6.heap.size → (k = p ∨ k = sb ∨ v.ownBlock = some k) → (k = p ∨ k = sb)) := Lib.hid (fun k hk q => by
            rcases q with q | q | q
            · exact .inl q
            · exact .inr q
            · have := HLT.out k q; omega)
          obtain ⟨vn, evn, Hvn, Zvn, Ivn, Ovn⟩ := row_of (hsS S e.2 j) (hsS_length _ _ _)
          have HH2 : Hid (∀ w', QSt p w' S (stS S e.2 j) → Calls Tryz.prog 115 #[.pointer (some ⟨p, 0, none⟩)] w' fun ev w2 => ev = .returned (.agg vn) ∧ QSt p w2 S (stS S e.2 (j + 1)) ∧ But (· = p) w' w2) := Lib.hid (fun w' h => by
            have := qhash_st p S (stS S e.2 j) w' h
            rw [show hv (hashS S (stS S e.2 j)).1 = .agg vn from evn] at this; exact this)
          obtain ⟨rv, hrv, hrc⟩ := HST.out.row
          have HRV := Lib.hid hrv
          have HRC := Lib.hid hrc
          have HSN : Hid (∀ (w' : World) (v9 : Value), w'.ownsRow w6.heap.size 23 32 v9 (j + 1) (hashCells ((List.range j).map (hsS S e.2)) ++ hashCells [hsS S e.2 j]) → Hid (w'.ownsRow w6.heap.size 23 32 v9 (j + 1) (hashCells ((List.range (j + 1)).map (hsS S e.2))))) := Lib.hid (fun w' v9 h => Lib.hid (by
            rw [List.range_succ, List.map_append]
            rw [← hashCells_append] at h
            exact h))
          have k0 : decide ((j : Int) < (e.1 : Int)) = true := by simp; omega
          have k1 : decide ((j : Int) ≤ 6) = true := by simp; omega
          have k2 : (j : Int) < (e.1 : Int) := by omega
          clear evn hrv hrc
          go_upto_region 12 with fail
          refine wp_region_held_drew (S := But (fun k => k = p ∨ k = sb ∨ v.ownBlock = some k) wr) (by kernel_rfl) (But.refl _ _).drew (fun hHeld => ?_)
          refine tk (i := 0) (v := ?v1) rfl ?y1 ?r1
          case y1 => (intro w hSw; (try dsimp only at hSw); go_simp; (try with_reducible rfl))
          try simp only [pu]
          refine tk (i := 2) (v := ?v2) rfl ?y2 ?r2
          case y2 => (intro w hSw; (try dsimp only at hSw); go_simp; (try with_reducible rfl))
          try simp only [pu]
          refine wpAnyH_ready (rs := [1, 3]) (by kernel_rfl) (by simp) ?_
          refine AllReadyH.cons (i := 1) rfl (fun K2 hK2 => ?_) ?more3
          · skip
            have z0 : wr.drew.cell? ⟨sb, 2, none⟩ = some v := (cell_of_row wr.drew sb 2 _ 26 (0, 0) (show wr.drew.heap[sb]? = _ from HR.out)).trans rfl
            go_simp
            refine hK2.out _ _ ((But.refl (fun k => k = p ∨ k = sb ∨ v.ownBlock = some k) wr).drew) (fun hHeld2 => ?_)
            clear hK2 K2
            try simp only [pu]
            refine wpAnyH_ready (rs := [3]) (by kernel_rfl) (by simp) ?_
            refine AllReadyH.cons (i := 3) rfl (fun K2 hK2 => ?_) AllReadyH.nil
            go_simp
            go_at_call 115
            refine (HH2.out wr.drew (HRC.out wr.drew (show wr.drew.heap[p]? = _ from HRV.out))).mono ?_
            rintro ev w701 ⟨rfl, hR9, b9⟩
            try go_wp2_with fail
            have Kw701 := Lib.hid (But.step ((But.refl (fun k => k = p ∨ k = sb ∨ v.ownBlock = some k) wr).drew) b9 (fun k _ y => .inl y))
            have Tw701_0 := Lib.hid ((b9.same _ (Array.getElem?_eq_some_iff.1 (show wr.drew.heap[sb]? = _ from HR.out)).1 (by omega)).trans (show wr.drew.heap[sb]? = _ from HR.out))
            obtain ⟨rv9, hrv9, hrc9⟩ := QSt.row (show QSt p w701 S _ from hR9)
            have Tw701_p := Lib.hid hrv9
            have HRC9 := Lib.hid hrc9
            have Ow701 := Lib.hid (own_keep_ne (b := p) (fun k x hk hx => (b9.same k (Array.getElem?_eq_some_iff.1 hx).1 hk).trans hx) (own_drew OWN.out) HNP.out)
            clear hR9 b9 hrv9 hrc9
            refine hK2.out _ _ Kw701.out (fun hHeld2 => ?_)
            clear hK2 K2
            try simp only [pu]
            refine wpAnyH_ready (rs := [4]) (by kernel_rfl) (by simp) ?_
            refine AllReadyH.cons (i := 4) rfl (fun K2 hK2 => ?_) AllReadyH.nil
            rw [if_pos (by rfl)]
            refine wp_buildSlice_row 24 23 _ vn _ 32 rfl rfl Tryz.underlying24 Tryz.sizeOf23 Tryz.zeroValue23 rfl Zvn.out (by omega) (by omega) ?_
            obtain ⟨w702, hw702⟩ : ∃ x, (w701.alloc (.cells vn 23)) = x := ⟨_, rfl⟩
            obtain ⟨g702, hg702⟩ : ∃ x, w701.heap.size = x := ⟨_, rfl⟩
            obtain ⟨Kw702, Tw702_2, qw702, fw702⟩ := st_alloc Kw701.out hw702 hg702
            rw [hw702, hg702]; clear hw702 hg702
            have Kw702 := Lib.hid Kw702
            have Tw702_2 := Lib.hid Tw702_2
            obtain ⟨Tw702_0, dw702_0⟩ := fw702 _ _ Tw701_0.out
            have Tw702_0 := Lib.hid Tw702_0
            obtain ⟨Tw702_1, dw702_1⟩ := fw702 _ _ Tw701_p.out
            have Tw702_1 := Lib.hid Tw702_1
            have Ow702 := Lib.hid (own_keep (fun k x h => (fw702 k x h).1) Ow701.out)
            clear fw702
            refine hK2.out _ _ Kw702.out (fun hHeld2 => ?_)
            clear hK2 K2
            try simp only [pu]
            refine wpAnyH_ready (rs := [5]) (by kernel_rfl) (by simp) ?_
            refine AllReadyH.cons (i := 5) rfl (fun K2 hK2 => ?_) AllReadyH.nil
            rw [if_pos (by rfl)]
            refine wp_append_list _ _ 24 rfl w6.heap.size _ 23 i0 _ 32 32 Tryz.underlying24 hi hz0 hz1 hz2 rfl (by decide) v (.slice (some ⟨g702, 0, none⟩) 1 1) j 1 (hashCells ((List.range j).map (hsS S e.2))) (hashCells [(hsS S e.2 j)]) rfl rfl Ow702.out (own_at (hsS S e.2 j) Tw702_2.out Hvn.out Zvn.out) (hashCells_cell _) (by unfold maxLen; omega) (by omega) (by have := (Kw702.out).size; omega) ?_
            intro v9 w703 o9 g9 a9
            obtain ⟨A9, C9, rfl, hC9⟩ := own_shape o9
            obtain ⟨Kw703, fw703⟩ := st_grow Kw702.out g9 (fun k q => .inr (.inr q))
            have Kw703 := Lib.hid Kw703
            have Ow703 := Lib.hid o9
            have Tw703_0 := Lib.hid (fw703 _ _ HNB.out Tw702_0.out)
            have Tw703_1 := Lib.hid (fw703 _ _ HNP.out Tw702_1.out)
            have HNB9 : (Value.slice A9 (j + 1) C9).ownBlock ≠ some sb := by
              rcases a9 with q | q
              · rw [q]; exact HNB.out
              · rw [q]; intro e; injection e with e; have := (Kw702.out).size; omega
            clear fw703 o9 g9 a9
            refine hK2.out _ _ Kw703.out (fun hHeld2 => ?_)
            clear hK2 K2
            try simp only [pu]
            refine tk (i := 6) (v := ?v4) rfl ?y4 ?r4
            case y4 => (intro w hSw; (try dsimp only at hSw); go_simp; (try with_reducible rfl))
            try simp only [pu]
            refine wpAnyH_ready (rs := [7]) (by kernel_rfl) (by simp) ?_
            refine AllReadyH.cons (i := 7) rfl (fun K2 hK2 => ?_) AllReadyH.nil
            have c9 : w703.cell? ⟨sb, 2, none⟩ = some v := (cell_of_row w703 sb 2 _ 26 (0, 0) Tw703_0.out).trans rfl
            have f9 := frozen_of_row w703 sb 2 _ 26 Tw703_0.out
            go_simp
            obtain ⟨w704, hw704⟩ : ∃ x, w703.setCell ⟨sb, 2, none⟩ (Value.slice A9 (j + 1) C9) = x := ⟨_, rfl⟩
            obtain ⟨Kw704, Tw704_0, fw704⟩ := st_cell Kw703.out hw704 (fun _ => .inr (.inl rfl)) Tw703_0.out
            have Kw704 := Lib.hid Kw704
            have Tw704_0 := Lib.hid Tw704_0
            have Tw704_1 := Lib.hid (fw704 _ _ (by omega) Tw703_1.out)
            have Ow704 := Lib.hid (own_keep_ne fw704 Ow703.out HNB9)
            clear fw704
            rw [hw704]
            clear hw704
            refine hK2.out _ _ Kw704.out (fun hHeld2 => ?_)
            clear hK2 K2
            try simp only [pu]
            refine wpAnyH_done (by kernel_rfl) ?_ _
            have KE := Lib.hid Kw704.out
            have TE := Lib.hid Tw704_0.out
            have TR := Lib.hid (HRC9.out _ Tw704_1.out)
            have OE := Lib.hid Ow704.out
            go_wp2
            go_roundw
            case rel => exact ⟨j + 1, _, by omega, by go_num, HSN.out _ _ OE.out, Lib.hid TE.out, TR, Lib.hid (HB.out.step KE.out (fun k hk q => HPO.out k hk q))⟩
            case measure => simp [intOf]; omega

          refine AllReadyH.cons (i := 3) rfl (fun K2 hK2 => ?_) ?more5
          · skip
            go_simp
            go_at_call 115
            refine (HH2.out wr.drew (HRC.out wr.drew (show wr.drew.heap[p]? = _ from HRV.out))).mono ?_
            rintro ev w705 ⟨rfl, hR9, b9⟩
            try go_wp2_with fail
            have Kw705 := Lib.hid (But.step ((But.refl (fun k => k = p ∨ k = sb ∨ v.ownBlock = some k) wr).drew) b9 (fun k _ y => .inl y))
            have Tw705_0 := Lib.hid ((b9.same _ (Array.getElem?_eq_some_iff.1 (show wr.drew.heap[sb]? = _ from HR.out)).1 (by omega)).trans (show wr.drew.heap[sb]? = _ from HR.out))
            obtain ⟨rv9, hrv9, hrc9⟩ := QSt.row (show QSt p w705 S _ from hR9)
            have Tw705_p := Lib.hid hrv9
            have HRC9 := Lib.hid hrc9
            have Ow705 := Lib.hid (own_keep_ne (b := p) (fun k x hk hx => (b9.same k (Array.getElem?_eq_some_iff.1 hx).1 hk).trans hx) (own_drew OWN.out) HNP.out)
            clear hR9 b9 hrv9 hrc9
            refine hK2.out _ _ Kw705.out (fun hHeld2 => ?_)
            clear hK2 K2
            try simp only [pu]
            refine wpAnyH_ready (rs := [1, 4]) (by kernel_rfl) (by simp) ?_
            refine AllReadyH.cons (i := 1) rfl (fun K2 hK2 => ?_) ?more6
            · skip
              have z0 : w705.cell? ⟨sb, 2, none⟩ = some v := (cell_of_row w705 sb 2 _ 26 (0, 0) Tw705_0.out).trans rfl
              go_simp
              refine hK2.out _ _ Kw705.out (fun hHeld2 => ?_)
              clear hK2 K2
              try simp only [pu]
              refine wpAnyH_ready (rs := [4]) (by kernel_rfl) (by simp) ?_
              refine AllReadyH.cons (i := 4) rfl (fun K2 hK2 => ?_) AllReadyH.nil
              rw [if_pos (by rfl)]
              refine wp_buildSlice_row 24 23 _ vn _ 32 rfl rfl Tryz.underlying24 Tryz.sizeOf23 Tryz.zeroValue23 rfl Zvn.out (by omega) (by omega) ?_
              obtain ⟨w706, hw706⟩ : ∃ x, (w705.alloc (.cells vn 23)) = x := ⟨_, rfl⟩
              obtain ⟨g706, hg706⟩ : ∃ x, w705.heap.size = x := ⟨_, rfl⟩
              obtain ⟨Kw706, Tw706_2, qw706, fw706⟩ := st_alloc Kw705.out hw706 hg706
              rw [hw706, hg706]; clear hw706 hg706
              have Kw706 := Lib.hid Kw706
              have Tw706_2 := Lib.hid Tw706_2
              obtain ⟨Tw706_0, dw706_0⟩ := fw706 _ _ Tw705_0.out
              have Tw706_0 := Lib.hid Tw706_0
              obtain ⟨Tw706_1, dw706_1⟩ := fw706 _ _ Tw705_p.out
              have Tw706_1 := Lib.hid Tw706_1
              have Ow706 := Lib.hid (own_keep (fun k x h => (fw706 k x h).1) Ow705.out)
              clear fw706
              refine hK2.out _ _ Kw706.out (fun hHeld2 => ?_)
              clear hK2 K2
              try simp only [pu]
              refine wpAnyH_ready (rs := [5]) (by kernel_rfl) (by simp) ?_
              refine AllReadyH.cons (i := 5) rfl (fun K2 hK2 => ?_) AllReadyH.nil
              rw [if_pos (by rfl)]
              refine wp_append_list _ _ 24 rfl w6.heap.size _ 23 i0 _ 32 32 Tryz.underlying24 hi hz0 hz1 hz2 rfl (by decide) v (.slice (some ⟨g706, 0, none⟩) 1 1) j 1 (hashCells ((List.range j).map (hsS S e.2))) (hashCells [(hsS S e.2 j)]) rfl rfl Ow706.out (own_at (hsS S e.2 j) Tw706_2.out Hvn.out Zvn.out) (hashCells_cell _) (by unfold maxLen; omega) (by omega) (by have := (Kw706.out).size; omega) ?_
              intro v9 w707 o9 g9 a9
              obtain ⟨A9, C9, rfl, hC9⟩ := own_shape o9
              obtain ⟨Kw707, fw707⟩ := st_grow Kw706.out g9 (fun k q => .inr (.inr q))
              have Kw707 := Lib.hid Kw707
              have Ow707 := Lib.hid o9
              have Tw707_0 := Lib.hid (fw707 _ _ HNB.out Tw706_0.out)
              have Tw707_1 := Lib.hid (fw707 _ _ HNP.out Tw706_1.out)
              have HNB9 : (Value.slice A9 (j + 1) C9).ownBlock ≠ some sb := by
                rcases a9 with q | q
                · rw [q]; exact HNB.out
                · rw [q]; intro e; injection e with e; have := (Kw706.out).size; omega
              clear fw707 o9 g9 a9
              refine hK2.out _ _ Kw707.out (fun hHeld2 => ?_)
              clear hK2 K2
              try simp only [pu]
              refine tk (i := 6) (v := ?v7) rfl ?y7 ?r7
              case y7 => (intro w hSw; (try dsimp only at hSw); go_simp; (try with_reducible rfl))
              try simp only [pu]
              refine wpAnyH_ready (rs := [7]) (by kernel_rfl) (by simp) ?_
              refine AllReadyH.cons (i := 7) rfl (fun K2 hK2 => ?_) AllReadyH.nil
              have c9 : w707.cell? ⟨sb, 2, none⟩ = some v := (cell_of_row w707 sb 2 _ 26 (0, 0) Tw707_0.out).trans rfl
              have f9 := frozen_of_row w707 sb 2 _ 26 Tw707_0.out
              go_simp
              obtain ⟨w708, hw708⟩ : ∃ x, w707.setCell ⟨sb, 2, none⟩ (Value.slice A9 (j + 1) C9) = x := ⟨_, rfl⟩
              obtain ⟨Kw708, Tw708_0, fw708⟩ := st_cell Kw707.out hw708 (fun _ => .inr (.inl rfl)) Tw707_0.out
              have Kw708 := Lib.hid Kw708
              have Tw708_0 := Lib.hid Tw708_0
              have Tw708_1 := Lib.hid (fw708 _ _ (by omega) Tw707_1.out)
              have Ow708 := Lib.hid (own_keep_ne fw708 Ow707.out HNB9)
              clear fw708
              rw [hw708]
              clear hw708
              refine hK2.out _ _ Kw708.out (fun hHeld2 => ?_)
              clear hK2 K2
              try simp only [pu]
              refine wpAnyH_done (by kernel_rfl) ?_ _
              have KE := Lib.hid Kw708.out
              have TE := Lib.hid Tw708_0.out
              have TR := Lib.hid (HRC9.out _ Tw708_1.out)
              have OE := Lib.hid Ow708.out
              go_wp2
              go_roundw
              case rel => exact ⟨j + 1, _, by omega, by go_num, HSN.out _ _ OE.out, Lib.hid TE.out, TR, Lib.hid (HB.out.step KE.out (fun k hk q => HPO.out k hk q))⟩
              case measure => simp [intOf]; omega
            
            refine AllReadyH.cons (i := 4) rfl (fun K2 hK2 => ?_) ?more8
            · skip
              rw [if_pos (by rfl)]
              refine wp_buildSlice_row 24 23 _ vn _ 32 rfl rfl Tryz.underlying24 Tryz.sizeOf23 Tryz.zeroValue23 rfl Zvn.out (by omega) (by omega) ?_
              obtain ⟨w709, hw709⟩ : ∃ x, (w705.alloc (.cells vn 23)) = x := ⟨_, rfl⟩
              obtain ⟨g709, hg709⟩ : ∃ x, w705.heap.size = x := ⟨_, rfl⟩
              obtain ⟨Kw709, Tw709_2, qw709, fw709⟩ := st_alloc Kw705.out hw709 hg709
              rw [hw709, hg709]; clear hw709 hg709
              have Kw709 := Lib.hid Kw709
              have Tw709_2 := Lib.hid Tw709_2
              obtain ⟨Tw709_0, dw709_0⟩ := fw709 _ _ Tw705_0.out
              have Tw709_0 := Lib.hid Tw709_0
              obtain ⟨Tw709_1, dw709_1⟩ := fw709 _ _ Tw705_p.out
              have Tw709_1 := Lib.hid Tw709_1
              have Ow709 := Lib.hid (own_keep (fun k x h => (fw709 k x h).1) Ow705.out)
              clear fw709
              refine hK2.out _ _ Kw709.out (fun hHeld2 => ?_)
              clear hK2 K2
              try simp only [pu]
              refine wpAnyH_ready (rs := [1]) (by kernel_rfl) (by simp) ?_
              refine AllReadyH.cons (i := 1) rfl (fun K2 hK2 => ?_) AllReadyH.nil
              have z0 : w709.cell? ⟨sb, 2, none⟩ = some v := (cell_of_row w709 sb 2 _ 26 (0, 0) Tw709_0.out).trans rfl
              go_simp
              refine hK2.out _ _ Kw709.out (fun hHeld2 => ?_)
              clear hK2 K2
              try simp only [pu]
              refine wpAnyH_ready (rs := [5]) (by kernel_rfl) (by simp) ?_
              refine AllReadyH.cons (i := 5) rfl (fun K2 hK2 => ?_) AllReadyH.nil
              rw [if_pos (by rfl)]
              refine wp_append_list _ _ 24 rfl w6.heap.size _ 23 i0 _ 32 32 Tryz.underlying24 hi hz0 hz1 hz2 rfl (by decide) v (.slice (some ⟨g709, 0, none⟩) 1 1) j 1 (hashCells ((List.range j).map (hsS S e.2))) (hashCells [(hsS S e.2 j)]) rfl rfl Ow709.out (own_at (hsS S e.2 j) Tw709_2.out Hvn.out Zvn.out) (hashCells_cell _) (by unfold maxLen; omega) (by omega) (by have := (Kw709.out).size; omega) ?_
              intro v9 w710 o9 g9 a9
              obtain ⟨A9, C9, rfl, hC9⟩ := own_shape o9
              obtain ⟨Kw710, fw710⟩ := st_grow Kw709.out g9 (fun k q => .inr (.inr q))
              have Kw710 := Lib.hid Kw710
              have Ow710 := Lib.hid o9
              have Tw710_0 := Lib.hid (fw710 _ _ HNB.out Tw709_0.out)
              have Tw710_1 := Lib.hid (fw710 _ _ HNP.out Tw709_1.out)
              have HNB9 : (Value.slice A9 (j + 1) C9).ownBlock ≠ some sb := by
                rcases a9 with q | q
                · rw [q]; exact HNB.out
                · rw [q]; intro e; injection e with e; have := (Kw709.out).size; omega
              clear fw710 o9 g9 a9
              refine hK2.out _ _ Kw710.out (fun hHeld2 => ?_)
              clear hK2 K2
              try simp only [pu]
              refine tk (i := 6) (v := ?v9) rfl ?y9 ?r9
              case y9 => (intro w hSw; (try dsimp only at hSw); go_simp; (try with_reducible rfl))
              try simp only [pu]
              refine wpAnyH_ready (rs := [7]) (by kernel_rfl) (by simp) ?_
              refine AllReadyH.cons (i := 7) rfl (fun K2 hK2 => ?_) AllReadyH.nil
              have c9 : w710.cell? ⟨sb, 2, none⟩ = some v := (cell_of_row w710 sb 2 _ 26 (0, 0) Tw710_0.out).trans rfl
              have f9 := frozen_of_row w710 sb 2 _ 26 Tw710_0.out
              go_simp
              obtain ⟨w711, hw711⟩ : ∃ x, w710.setCell ⟨sb, 2, none⟩ (Value.slice A9 (j + 1) C9) = x := ⟨_, rfl⟩
              obtain ⟨Kw711, Tw711_0, fw711⟩ := st_cell Kw710.out hw711 (fun _ => .inr (.inl rfl)) Tw710_0.out
              have Kw711 := Lib.hid Kw711
              have Tw711_0 := Lib.hid Tw711_0
              have Tw711_1 := Lib.hid (fw711 _ _ (by omega) Tw710_1.out)
              have Ow711 := Lib.hid (own_keep_ne fw711 Ow710.out HNB9)
              clear fw711
              rw [hw711]
              clear hw711
              refine hK2.out _ _ Kw711.out (fun hHeld2 => ?_)
              clear hK2 K2
              try simp only [pu]
              refine wpAnyH_done (by kernel_rfl) ?_ _
              have KE := Lib.hid Kw711.out
              have TE := Lib.hid Tw711_0.out
              have TR := Lib.hid (HRC9.out _ Tw711_1.out)
              have OE := Lib.hid Ow711.out
              go_wp2
              go_roundw
              case rel => exact ⟨j + 1, _, by omega, by go_num, HSN.out _ _ OE.out, Lib.hid TE.out, TR, Lib.hid (HB.out.step KE.out (fun k hk q => HPO.out k hk q))⟩
              case measure => simp [intOf]; omega
            
            exact AllReadyH.nil

          exact AllReadyH.nil
        · by_cases hq9 : j < e.1
          · have k0 : decide ((j : Int) < (e.1 : Int)) = true := by simp; omega
            have k1 : decide ((j : Int) ≤ 6) = false := by simp; omega
            have hje : (e.1 ≤ 6 ∧ j = e.1) ∨ (6 < e.1 ∧ j = 7) := by omega
            have BW9 : Hid (Below p wv wr) := Lib.hid (B6.out.trans (HB.out.to_below (by omega) (fun k hk y => by rcases y with y | y <;> omega)))
            go_wp2_with fail
            refine (qend_st p S (stS S e.2 j) wr HST.out).mono ?_
            rintro ev w8 ⟨⟨c9, k9, rfl, hck⟩, b8⟩
            have hfc := field_code
            have BP8 : Hid (Below p wv w8) := Lib.hid (BW9.out.trans (b8.mono (by have := BW9.out.size; have := HO.out; omega)))
            rcases hck with ⟨hoS, rfl⟩ | ⟨hoS, rfl⟩
            · have HOS := Lib.hid hoS
              by_cases hx : 63 < d.1
              · have HX := Lib.hid hx
                have g1 : decide ((63 : Int) < (d.1 : Int)) = true := by simp; omega
                clear b8 hoS hje
                have RZ9 : Hid (w8.heap[w.heap.size]? = some (.cells #[.int .i64 0, .slice none 0 0, .slice none 0 0] 26 (0, 0))) := Lib.hid ((BP8.out.block _ (by have := HO.out; omega)).trans RZ.out)
                have RF9 : Hid (w8.heap[w.heap.size + 1]? = some (.cells #[.int .i64 0, .int .i64 0] 34 (0, 0))) := Lib.hid ((BP8.out.block _ (by have := HO.out; omega)).trans RF.out)
                go_wp2_with fail
                refine (PLAIN.out w8).mono ?_
                rintro ev w19 ⟨rfl, b19⟩
                have RZ19 := Lib.hid ((b19.block _ (Array.getElem?_eq_some_iff.1 RZ9.out).1).trans RZ9.out)
                have RF19 := Lib.hid ((b19.block _ (Array.getElem?_eq_some_iff.1 RF9.out).1).trans RF9.out)
                have B19 := Lib.hid (HBW0.out _ (BP8.out.trans (b19.mono (by have := BP8.out.size; have := HO.out; omega))))
                clear b19
                go_wp2_with (first
                  | (refine wpList_store_row rfl 26 _ _ rfl w.heap.size zs rfl (by rw [HZS9.out]; rfl) 26 _ RZ19.out Izs.out (by rw [Zzs.out]; rfl) Ozs.out ?_)
                  | (refine wpList_store_row rfl 34 _ _ rfl (w.heap.size + 1) vf rfl rfl 34 _ ((setRow_other _ _ _ _ (by omega)).trans RF19.out) Ivf.out (by rw [Zvf.out]; rfl) Ovf.out ?_))
                refine bodyPost_ret (v := .tuple #[.agg zs, .agg vf]) (results_row_row rfl _ _ w.heap.size (w.heap.size + 1) 26 34 zs vf (0, 0) (0, 0) _ _ rfl ((setRow_other _ _ _ _ (by omega)).trans (setRow_heap _ _ _ _ _ _ RZ19.out)) rfl (setRow_heap _ _ _ _ _ _ ((setRow_other _ _ _ _ (by omega)).trans RF19.out)) Tryz.underlying26 rfl Izs.out Tryz.underlying34 rfl Ivf.out) rfl ⟨.inr ⟨fun hk => by have h2 := hk.2.2; rw [HDE.out] at h2; have h3 := HX.out; simp only at h2; omega, by rw [← HZS9.out, EVF.out]⟩, below_setRow (below_setRow B19.out _ _ (Nat.le_refl _)) _ _ (by omega)⟩
              · have g1 : decide ((63 : Int) < (d.1 : Int)) = false := by simp; omega
                by_cases hn : 6 < e.1
                · have HX := Lib.hid hn
                  have g2 : decide ((6 : Int) < (e.1 : Int)) = true := by simp; omega
                  clear b8 hoS hje
                  have RZ9 : Hid (w8.heap[w.heap.size]? = some (.cells #[.int .i64 0, .slice none 0 0, .slice none 0 0] 26 (0, 0))) := Lib.hid ((BP8.out.block _ (by have := HO.out; omega)).trans RZ.out)
                  have RF9 : Hid (w8.heap[w.heap.size + 1]? = some (.cells #[.int .i64 0, .int .i64 0] 34 (0, 0))) := Lib.hid ((BP8.out.block _ (by have := HO.out; omega)).trans RF.out)
                  go_wp2_with fail
                  refine (PLAIN.out w8).mono ?_
                  rintro ev w19 ⟨rfl, b19⟩
                  have RZ19 := Lib.hid ((b19.block _ (Array.getElem?_eq_some_iff.1 RZ9.out).1).trans RZ9.out)
                  have RF19 := Lib.hid ((b19.block _ (Array.getElem?_eq_some_iff.1 RF9.out).1).trans RF9.out)
                  have B19 := Lib.hid (HBW0.out _ (BP8.out.trans (b19.mono (by have := BP8.out.size; have := HO.out; omega))))
                  clear b19
                  go_wp2_with (first
                    | (refine wpList_store_row rfl 26 _ _ rfl w.heap.size zs rfl (by rw [HZS9.out]; rfl) 26 _ RZ19.out Izs.out (by rw [Zzs.out]; rfl) Ozs.out ?_)
                    | (refine wpList_store_row rfl 34 _ _ rfl (w.heap.size + 1) vf rfl rfl 34 _ ((setRow_other _ _ _ _ (by omega)).trans RF19.out) Ivf.out (by rw [Zvf.out]; rfl) Ovf.out ?_))
                  refine bodyPost_ret (v := .tuple #[.agg zs, .agg vf]) (results_row_row rfl _ _ w.heap.size (w.heap.size + 1) 26 34 zs vf (0, 0) (0, 0) _ _ rfl ((setRow_other _ _ _ _ (by omega)).trans (setRow_heap _ _ _ _ _ _ RZ19.out)) rfl (setRow_heap _ _ _ _ _ _ ((setRow_other _ _ _ _ (by omega)).trans RF19.out)) Tryz.underlying26 rfl Izs.out Tryz.underlying34 rfl Ivf.out) rfl ⟨.inr ⟨fun hk => by have h2 := hk.2.1; rw [HDE.out] at h2; have h3 := HX.out; simp only at h2; omega, by rw [← HZS9.out, EVF.out]⟩, below_setRow (below_setRow B19.out _ _ (Nat.le_refl _)) _ _ (by omega)⟩
                · exfalso; omega
            · have HOS := Lib.hid hoS
              clear b8 hoS
              by_cases hn : e.1 ≤ 6
              · exfalso; omega
              · have HX := Lib.hid hn
                clear hje
                have RZ9 : Hid (w8.heap[w.heap.size]? = some (.cells #[.int .i64 0, .slice none 0 0, .slice none 0 0] 26 (0, 0))) := Lib.hid ((BP8.out.block _ (by have := HO.out; omega)).trans RZ.out)
                have RF9 : Hid (w8.heap[w.heap.size + 1]? = some (.cells #[.int .i64 0, .int .i64 0] 34 (0, 0))) := Lib.hid ((BP8.out.block _ (by have := HO.out; omega)).trans RF.out)
                go_wp2_with fail
                refine (PLAIN.out w8).mono ?_
                rintro ev w19 ⟨rfl, b19⟩
                have RZ19 := Lib.hid ((b19.block _ (Array.getElem?_eq_some_iff.1 RZ9.out).1).trans RZ9.out)
                have RF19 := Lib.hid ((b19.block _ (Array.getElem?_eq_some_iff.1 RF9.out).1).trans RF9.out)
                have B19 := Lib.hid (HBW0.out _ (BP8.out.trans (b19.mono (by have := BP8.out.size; have := HO.out; omega))))
                clear b19
                go_wp2_with (first
                  | (refine wpList_store_row rfl 26 _ _ rfl w.heap.size zs rfl (by rw [HZS9.out]; rfl) 26 _ RZ19.out Izs.out (by rw [Zzs.out]; rfl) Ozs.out ?_)
                  | (refine wpList_store_row rfl 34 _ _ rfl (w.heap.size + 1) vf rfl rfl 34 _ ((setRow_other _ _ _ _ (by omega)).trans RF19.out) Ivf.out (by rw [Zvf.out]; rfl) Ovf.out ?_))
                refine bodyPost_ret (v := .tuple #[.agg zs, .agg vf]) (results_row_row rfl _ _ w.heap.size (w.heap.size + 1) 26 34 zs vf (0, 0) (0, 0) _ _ rfl ((setRow_other _ _ _ _ (by omega)).trans (setRow_heap _ _ _ _ _ _ RZ19.out)) rfl (setRow_heap _ _ _ _ _ _ ((setRow_other _ _ _ _ (by omega)).trans RF19.out)) Tryz.underlying26 rfl Izs.out Tryz.underlying34 rfl Ivf.out) rfl ⟨.inr ⟨fun hk => by have h2 := hk.2.1; rw [HDE.out] at h2; exact HX.out h2, by rw [← HZS9.out, EVF.out]⟩, below_setRow (below_setRow B19.out _ _ (Nat.le_refl _)) _ _ (by omega)⟩
          · have k0 : decide ((j : Int) < (e.1 : Int)) = false := by simp; omega
            have hje : (e.1 ≤ 6 ∧ j = e.1) ∨ (6 < e.1 ∧ j = 7) := by omega
            have BW9 : Hid (Below p wv wr) := Lib.hid (B6.out.trans (HB.out.to_below (by omega) (fun k hk y => by rcases y with y | y <;> omega)))
            go_wp2_with fail
            refine (qend_st p S (stS S e.2 j) wr HST.out).mono ?_
            rintro ev w8 ⟨⟨c9, k9, rfl, hck⟩, b8⟩
            have hfc := field_code
            have BP8 : Hid (Below p wv w8) := Lib.hid (BW9.out.trans (b8.mono (by have := BW9.out.size; have := HO.out; omega)))
            rcases hck with ⟨hoS, rfl⟩ | ⟨hoS, rfl⟩
            · have HOS := Lib.hid hoS
              by_cases hx : 63 < d.1
              · have HX := Lib.hid hx
                have g1 : decide ((63 : Int) < (d.1 : Int)) = true := by simp; omega
                clear b8 hoS hje
                have RZ9 : Hid (w8.heap[w.heap.size]? = some (.cells #[.int .i64 0, .slice none 0 0, .slice none 0 0] 26 (0, 0))) := Lib.hid ((BP8.out.block _ (by have := HO.out; omega)).trans RZ.out)
                have RF9 : Hid (w8.heap[w.heap.size + 1]? = some (.cells #[.int .i64 0, .int .i64 0] 34 (0, 0))) := Lib.hid ((BP8.out.block _ (by have := HO.out; omega)).trans RF.out)
                go_wp2_with fail
                refine (PLAIN.out w8).mono ?_
                rintro ev w19 ⟨rfl, b19⟩
                have RZ19 := Lib.hid ((b19.block _ (Array.getElem?_eq_some_iff.1 RZ9.out).1).trans RZ9.out)
                have RF19 := Lib.hid ((b19.block _ (Array.getElem?_eq_some_iff.1 RF9.out).1).trans RF9.out)
                have B19 := Lib.hid (HBW0.out _ (BP8.out.trans (b19.mono (by have := BP8.out.size; have := HO.out; omega))))
                clear b19
                go_wp2_with (first
                  | (refine wpList_store_row rfl 26 _ _ rfl w.heap.size zs rfl (by rw [HZS9.out]; rfl) 26 _ RZ19.out Izs.out (by rw [Zzs.out]; rfl) Ozs.out ?_)
                  | (refine wpList_store_row rfl 34 _ _ rfl (w.heap.size + 1) vf rfl rfl 34 _ ((setRow_other _ _ _ _ (by omega)).trans RF19.out) Ivf.out (by rw [Zvf.out]; rfl) Ovf.out ?_))
                refine bodyPost_ret (v := .tuple #[.agg zs, .agg vf]) (results_row_row rfl _ _ w.heap.size (w.heap.size + 1) 26 34 zs vf (0, 0) (0, 0) _ _ rfl ((setRow_other _ _ _ _ (by omega)).trans (setRow_heap _ _ _ _ _ _ RZ19.out)) rfl (setRow_heap _ _ _ _ _ _ ((setRow_other _ _ _ _ (by omega)).trans RF19.out)) Tryz.underlying26 rfl Izs.out Tryz.underlying34 rfl Ivf.out) rfl ⟨.inr ⟨fun hk => by have h2 := hk.2.2; rw [HDE.out] at h2; have h3 := HX.out; simp only at h2; omega, by rw [← HZS9.out, EVF.out]⟩, below_setRow (below_setRow B19.out _ _ (Nat.le_refl _)) _ _ (by omega)⟩
              · have g1 : decide ((63 : Int) < (d.1 : Int)) = false := by simp; omega
                by_cases hn : 6 < e.1
                · have HX := Lib.hid hn
                  have g2 : decide ((6 : Int) < (e.1 : Int)) = true := by simp; omega
                  clear b8 hoS hje
                  have RZ9 : Hid (w8.heap[w.heap.size]? = some (.cells #[.int .i64 0, .slice none 0 0, .slice none 0 0] 26 (0, 0))) := Lib.hid ((BP8.out.block _ (by have := HO.out; omega)).trans RZ.out)
                  have RF9 : Hid (w8.heap[w.heap.size + 1]? = some (.cells #[.int .i64 0, .int .i64 0] 34 (0, 0))) := Lib.hid ((BP8.out.block _ (by have := HO.out; omega)).trans RF.out)
                  go_wp2_with fail
                  refine (PLAIN.out w8).mono ?_
                  rintro ev w19 ⟨rfl, b19⟩
                  have RZ19 := Lib.hid ((b19.block _ (Array.getElem?_eq_some_iff.1 RZ9.out).1).trans RZ9.out)
                  have RF19 := Lib.hid ((b19.block _ (Array.getElem?_eq_some_iff.1 RF9.out).1).trans RF9.out)
                  have B19 := Lib.hid (HBW0.out _ (BP8.out.trans (b19.mono (by have := BP8.out.size; have := HO.out; omega))))
                  clear b19
                  go_wp2_with (first
                    | (refine wpList_store_row rfl 26 _ _ rfl w.heap.size zs rfl (by rw [HZS9.out]; rfl) 26 _ RZ19.out Izs.out (by rw [Zzs.out]; rfl) Ozs.out ?_)
                    | (refine wpList_store_row rfl 34 _ _ rfl (w.heap.size + 1) vf rfl rfl 34 _ ((setRow_other _ _ _ _ (by omega)).trans RF19.out) Ivf.out (by rw [Zvf.out]; rfl) Ovf.out ?_))
                  refine bodyPost_ret (v := .tuple #[.agg zs, .agg vf]) (results_row_row rfl _ _ w.heap.size (w.heap.size + 1) 26 34 zs vf (0, 0) (0, 0) _ _ rfl ((setRow_other _ _ _ _ (by omega)).trans (setRow_heap _ _ _ _ _ _ RZ19.out)) rfl (setRow_heap _ _ _ _ _ _ ((setRow_other _ _ _ _ (by omega)).trans RF19.out)) Tryz.underlying26 rfl Izs.out Tryz.underlying34 rfl Ivf.out) rfl ⟨.inr ⟨fun hk => by have h2 := hk.2.1; rw [HDE.out] at h2; have h3 := HX.out; simp only at h2; omega, by rw [← HZS9.out, EVF.out]⟩, below_setRow (below_setRow B19.out _ _ (Nat.le_refl _)) _ _ (by omega)⟩
                · have g2 : decide ((6 : Int) < (e.1 : Int)) = false := by simp; omega
                  obtain rfl : j = e.1 := by omega
                  have HOK : Hid ((decS S).ok S) := Lib.hid (by rw [HDE.out]; exact ⟨by show stS S e.2 (min e.1 6) = _; rw [Nat.min_eq_left (by omega)]; exact HOS.out, by show e.1 ≤ 6; omega, by show d.1 < 64; omega⟩)
                  have R8 := Lib.hid ((b8.block _ (Array.getElem?_eq_some_iff.1 HR.out).1).trans HR.out)
                  have OW8 := Lib.hid (own_below OWN.out b8 (Nat.le_refl _))
                  have OV8 := Lib.hid (own_below (own_keep_but HB.out OV6.out (fun k hk q => by have := (OV6.out.lt k hk).1; have := HSwv.out; rcases q with q | q <;> omega)) b8 (Nat.le_refl _))
                  clear b8 hoS hje
                  have zc : w8.cell? ⟨sb, 0, none⟩ = some (.int .i64 0) := (cell_of_row w8 sb 0 _ 26 (0, 0) R8.out).trans rfl
                  have zf := frozen_of_row w8 sb 0 _ 26 R8.out
                  have ew : IntKind.i64.wrap (d.1 : Int) = (d.1 : Int) := IntWalk.i64_in _ (by omega)
                  go_upto_region 16 with fail
                  obtain ⟨w10, hw10⟩ : ∃ y, w8.setCell ⟨sb, 0, none⟩ (.int .i64 (d.1 : Int)) = y := ⟨_, rfl⟩
                  have K10 : Hid (But (· = sb) w8 w10) := Lib.hid (by rw [← hw10]; exact (But.refl _ _).setCell _ _ _ (fun _ => rfl))
                  have OW10 := own_keep_but K10.out OW8.out (fun k hk q => by have := (OW8.out.lt k hk).1; omega)
                  have OV10 := own_keep_but K10.out OV8.out (fun k hk q => by have := (OV8.out.lt k hk).1; have := HSwv.out; omega)
                  obtain ⟨A2, c2, hA2, -⟩ := hin_own (n := e.1) (l := (List.range e.1).map (hsS S e.2)) (fun z hz => by
                    obtain ⟨k, -, rfl⟩ := List.mem_map.1 hz
                    exact hsS_length _ _ _) (by simp) OW10
                  subst hA2
                  have OW10 := Lib.hid OW10
                  have OV10 := Lib.hid OV10
                  have R10 : Hid (w10.heap[sb]? = some (.cells #[.int .i64 (d.1 : Int), .slice A0 67 c0, .slice A2 e.1 c2] 26 (0, 0))) := Lib.hid (by rw [← hw10]; exact heap_setCell_same w8 sb 0 _ 26 _ R8.out)
                  have BP10 : Hid (Below p wv w10) := Lib.hid (BP8.out.trans (K10.out.to_below (by have := BP8.out.size; have := HO.out; omega) (fun k hk q => by omega)))
                  have RZ9 : Hid (w10.heap[w.heap.size]? = some (.cells #[.int .i64 0, .slice none 0 0, .slice none 0 0] 26 (0, 0))) := Lib.hid ((BP10.out.block _ (by have := HO.out; omega)).trans RZ.out)
                  have RF9 : Hid (w10.heap[w.heap.size + 1]? = some (.cells #[.int .i64 0, .int .i64 0] 34 (0, 0))) := Lib.hid ((BP10.out.block _ (by have := HO.out; omega)).trans RF.out)
                  have B10 := Lib.hid (HBW0.out _ BP10.out)
                  obtain ⟨sv, hsv9⟩ : ∃ y : Array Value, #[.int .i64 (d.1 : Int), .slice A0 67 c0, .slice A2 e.1 c2] = y := ⟨_, rfl⟩
                  have Zsv : Hid (sv.size = 3) := Lib.hid (by rw [← hsv9]; rfl)
                  have Isv : Hid ((Tryz.prog.info? 26).map (·.size) = some sv.size) := Lib.hid (by rw [Zsv.out]; kernel_rfl)
                  have Osv : Hid (sv.all (·.oneCell') = true) := Lib.hid (by rw [← hsv9]; simp [Value.oneCell'])
                  have HSV9 := Lib.hid hsv9
                  rw [hsv9] at R10
                  rw [hw10]
                  clear hw10 zc zf ew hsv9
                  go_wp2_with (first
                    | (refine wpList_load_row rfl 26 _ rfl sb rfl 26 sv (0, 0) _ R10.out Tryz.underlying26 rfl Isv.out ?_)
                    | (refine wpList_store_row rfl 26 _ _ rfl w.heap.size sv rfl rfl 26 _ RZ9.out Isv.out (by rw [Zsv.out]; rfl) Osv.out ?_)
                    | (refine wpList_store_row rfl 34 _ _ rfl (w.heap.size + 1) v0 rfl (by rw [HV0.out]; rfl) 34 _ ((setRow_other _ _ _ _ (by omega)).trans RF9.out) Iv0.out (by rw [Zv0.out]; rfl) Ov0.out ?_))
                  refine bodyPost_ret (v := .tuple #[.agg sv, .agg v0]) (results_row_row rfl _ _ w.heap.size (w.heap.size + 1) 26 34 sv v0 (0, 0) (0, 0) _ _ rfl ((setRow_other _ _ _ _ (by omega)).trans (setRow_heap _ _ _ _ _ _ RZ9.out)) rfl (setRow_heap _ _ _ _ _ _ ((setRow_other _ _ _ _ (by omega)).trans RF9.out)) Tryz.underlying26 rfl Isv.out Tryz.underlying34 rfl Iv0.out) rfl ⟨.inl ⟨HOK.out, A0, c0, A2, c2, ?_, ?_, ?_⟩, below_setRow (below_setRow B10.out _ _ (Nat.le_refl _)) _ _ (by omega)⟩
                  · rw [HDE.out, ← HSV9.out, EVZ.out]
                  · rw [HDE.out]
                    exact hin_of (fun k => hsS_length _ _ _) (own_keep_but (((But.refl (fun k => k = w.heap.size ∨ k = w.heap.size + 1) w10).setRow _ _ (fun _ => .inl rfl)).setRow _ _ (fun _ => .inr rfl)) OV10.out (fun k hk q => by have := (OV10.out.lt k hk).1; have := HSwv.out; have := HO.out; rcases q with q | q <;> omega))
                  · rw [HDE.out]
                    exact hin_of (fun k => hsS_length _ _ _) (own_keep_but (((But.refl (fun k => k = w.heap.size ∨ k = w.heap.size + 1) w10).setRow _ _ (fun _ => .inl rfl)).setRow _ _ (fun _ => .inr rfl)) OW10.out (fun k hk q => by have := (OW10.out.lt k hk).1; have := HSw6.out; have := HO.out; rcases q with q | q <;> omega))
            · have HOS := Lib.hid hoS
              clear b8 hoS
              by_cases hn : e.1 ≤ 6
              · obtain rfl : j = e.1 := by omega
                have HN6 := Lib.hid hn
                clear hje
                have RZ9 : Hid (w8.heap[w.heap.size]? = some (.cells #[.int .i64 0, .slice none 0 0, .slice none 0 0] 26 (0, 0))) := Lib.hid ((BP8.out.block _ (by have := HO.out; omega)).trans RZ.out)
                have RF9 : Hid (w8.heap[w.heap.size + 1]? = some (.cells #[.int .i64 0, .int .i64 0] 34 (0, 0))) := Lib.hid ((BP8.out.block _ (by have := HO.out; omega)).trans RF.out)
                go_wp2_with fail
                refine (PLAIN.out w8).mono ?_
                rintro ev w19 ⟨rfl, b19⟩
                have RZ19 := Lib.hid ((b19.block _ (Array.getElem?_eq_some_iff.1 RZ9.out).1).trans RZ9.out)
                have RF19 := Lib.hid ((b19.block _ (Array.getElem?_eq_some_iff.1 RF9.out).1).trans RF9.out)
                have B19 := Lib.hid (HBW0.out _ (BP8.out.trans (b19.mono (by have := BP8.out.size; have := HO.out; omega))))
                clear b19
                go_wp2_with (first
                  | (refine wpList_store_row rfl 26 _ _ rfl w.heap.size zs rfl (by rw [HZS9.out]; rfl) 26 _ RZ19.out Izs.out (by rw [Zzs.out]; rfl) Ozs.out ?_)
                  | (refine wpList_store_row rfl 34 _ _ rfl (w.heap.size + 1) vf rfl rfl 34 _ ((setRow_other _ _ _ _ (by omega)).trans RF19.out) Ivf.out (by rw [Zvf.out]; rfl) Ovf.out ?_))
                refine bodyPost_ret (v := .tuple #[.agg zs, .agg vf]) (results_row_row rfl _ _ w.heap.size (w.heap.size + 1) 26 34 zs vf (0, 0) (0, 0) _ _ rfl ((setRow_other _ _ _ _ (by omega)).trans (setRow_heap _ _ _ _ _ _ RZ19.out)) rfl (setRow_heap _ _ _ _ _ _ ((setRow_other _ _ _ _ (by omega)).trans RF19.out)) Tryz.underlying26 rfl Izs.out Tryz.underlying34 rfl Ivf.out) rfl ⟨.inr ⟨fun hk => HOS.out (by have h2 := hk.1; rw [HDE.out] at h2; rwa [show min e.1 6 = e.1 from Nat.min_eq_left HN6.out] at h2), by rw [← HZS9.out, EVF.out]⟩, below_setRow (below_setRow B19.out _ _ (Nat.le_refl _)) _ _ (by omega)⟩
              · have HX := Lib.hid hn
                clear hje
                have RZ9 : Hid (w8.heap[w.heap.size]? = some (.cells #[.int .i64 0, .slice none 0 0, .slice none 0 0] 26 (0, 0))) := Lib.hid ((BP8.out.block _ (by have := HO.out; omega)).trans RZ.out)
                have RF9 : Hid (w8.heap[w.heap.size + 1]? = some (.cells #[.int .i64 0, .int .i64 0] 34 (0, 0))) := Lib.hid ((BP8.out.block _ (by have := HO.out; omega)).trans RF.out)
                go_wp2_with fail
                refine (PLAIN.out w8).mono ?_
                rintro ev w19 ⟨rfl, b19⟩
                have RZ19 := Lib.hid ((b19.block _ (Array.getElem?_eq_some_iff.1 RZ9.out).1).trans RZ9.out)
                have RF19 := Lib.hid ((b19.block _ (Array.getElem?_eq_some_iff.1 RF9.out).1).trans RF9.out)
                have B19 := Lib.hid (HBW0.out _ (BP8.out.trans (b19.mono (by have := BP8.out.size; have := HO.out; omega))))
                clear b19
                go_wp2_with (first
                  | (refine wpList_store_row rfl 26 _ _ rfl w.heap.size zs rfl (by rw [HZS9.out]; rfl) 26 _ RZ19.out Izs.out (by rw [Zzs.out]; rfl) Ozs.out ?_)
                  | (refine wpList_store_row rfl 34 _ _ rfl (w.heap.size + 1) vf rfl rfl 34 _ ((setRow_other _ _ _ _ (by omega)).trans RF19.out) Ivf.out (by rw [Zvf.out]; rfl) Ovf.out ?_))
                refine bodyPost_ret (v := .tuple #[.agg zs, .agg vf]) (results_row_row rfl _ _ w.heap.size (w.heap.size + 1) 26 34 zs vf (0, 0) (0, 0) _ _ rfl ((setRow_other _ _ _ _ (by omega)).trans (setRow_heap _ _ _ _ _ _ RZ19.out)) rfl (setRow_heap _ _ _ _ _ _ ((setRow_other _ _ _ _ (by omega)).trans RF19.out)) Tryz.underlying26 rfl Izs.out Tryz.underlying34 rfl Ivf.out) rfl ⟨.inr ⟨fun hk => by have h2 := hk.2.1; rw [HDE.out] at h2; exact HX.out h2, by rw [← HZS9.out, EVF.out]⟩, below_setRow (below_setRow B19.out _ _ (Nat.le_refl _)) _ _ (by omega)⟩
end Go.Proofs.YtnpblpbcchminaaGreatDoor
