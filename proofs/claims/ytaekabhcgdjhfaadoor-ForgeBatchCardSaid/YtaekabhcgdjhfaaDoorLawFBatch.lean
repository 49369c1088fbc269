import Derived.Test.YtaekabhcgdjhfaaDoorForgePart
import Derived.Test.YtaekabhcgdjhfaaDoorForgeClaim
import Derived.Test.YtaekabhcgdjhfaaDoorForgeLives
/- What a claim says: lengths, agreement of leaves. Plain. -/
namespace Go.Proofs.YtaekabhcgdjhfaaDoor
open Go.ChangeShapes Go.WideShapes Go.ChangeAt Go.RowKit
set_option linter.unusedVariables false
theorem fSays_congr (said : Int × Int → Option (List UInt8)) (lv lv' : Int → List UInt8) : ∀ (f : Nat) (b e : Int), (∀ i, fBare said f b e i → lv i = lv' i) → fSays said lv f b e = fSays said lv' f b e
  | 0, b, e, h => by
    rw [fSays, fSays]
    cases q : said (b, e) with
    | some x => rfl
    | none => exact h b ⟨q, rfl⟩
  | f + 1, b, e, h => by
    rw [fSays, fSays]
    cases q : said (b, e) with
    | some x => rfl
    | none =>
      simp only
      by_cases h2 : e - b < 2
      · rw [if_pos h2, if_pos h2]; exact h b ⟨q, by rw [if_pos h2]⟩
      · rw [if_neg h2, if_neg h2, fSays_congr said lv lv' f b _ (fun i hi => h i ⟨q, by rw [if_neg h2]; exact .inl hi⟩), fSays_congr said lv lv' f _ e (fun i hi => h i ⟨q, by rw [if_neg h2]; exact .inr hi⟩)]
theorem fWalk_len (said : Int × Int → Option (List UInt8)) (lv : Int → List UInt8) (L : List ByteArray) (xt yt : Int → List UInt8) (M : Nat) (h64 : 64 ≤ M) (hx : ∀ i, (xt i).length ≤ M) (hy : ∀ i, (yt i).length ≤ M) (hll : ∀ i, (lv i).length = 32) (hs : ∀ p h, said p = some h → h.length = 32) :
    ∀ (f : Nat) (b e : Int) (r : List UInt8 × List UInt8), fWalk said lv L xt yt f b e = some r → r.1.length ≤ M + 1 ∧ r.2.length ≤ M + 1
  | 0, b, e, r, h => by
    rw [fWalk] at h
    cases q : said (b, e) with
    | some x => rw [q] at h; cases h
    | none =>
      rw [q] at h
      simp only at h
      split at h
      · cases h
      · cases h
        exact ⟨Nat.succ_le_succ (hx b), Nat.succ_le_succ (hy b)⟩
  | f + 1, b, e, r, h => by
    rw [fWalk] at h
    cases q : said (b, e) with
    | some x => rw [q] at h; cases h
    | none =>
      rw [q] at h
      simp only at h
      by_cases h2 : e - b < 2
      · rw [if_pos h2] at h
        split at h
        · cases h
        · cases h
          exact ⟨Nat.succ_le_succ (hx b), Nat.succ_le_succ (hy b)⟩
      · rw [if_neg h2] at h
        split at h
        · cases q1 : fWalk said lv L xt yt f b (b + blwI (e - b)) with
          | some r1 =>
            rw [q1] at h
            cases h
            exact fWalk_len said lv L xt yt M h64 hx hy hll hs f _ _ _ q1
          | none =>
            rw [q1] at h
            exact fWalk_len said lv L xt yt M h64 hx hy hll hs f _ _ _ h
        · cases h
          have l1 := treeB_len L b (b + blwI (e - b))
          have l2 := treeB_len L (b + blwI (e - b)) e
          have l3 := fSays_len said lv hs hll f b (b + blwI (e - b))
          have l4 := fSays_len said lv hs hll f (b + blwI (e - b)) e
          refine ⟨?_, ?_⟩ <;> (rw [List.length_cons, List.length_append]; omega)
theorem zip_32 {l : List (Int × Int)} {P : List (List UInt8)} (h : H32 P) : ∀ p h', saidL (l.zip P) p = some h' → h'.length = 32 := fun p h' q => by
  obtain ⟨x, hx, rfl⟩ := saidL_mem q
  exact h _ (List.of_mem_zip hx).2
theorem leafG_text (L : List ByteArray) (i : Int) : leafG L i = shaB (0 :: logText L i) := by unfold leafG logText; exact leafH_eq _
theorem claim_text (D : List ByteArray) (x i : Int) : claimLeaf D x i = shaB (0 :: claimText D x i) := by unfold claimLeaf claimText; exact leafH_eq _
theorem getD_size {L : List ByteArray} {M : Nat} (h : ∀ s ∈ L, s.size ≤ M) (i : Nat) : (L.getD i ByteArray.empty).size ≤ M := by
  rw [List.getD_eq_getElem?_getD]
  cases q : L[i]? with
  | none => exact Nat.zero_le _
  | some s => exact h s (List.mem_of_getElem? q)
end Go.Proofs.YtaekabhcgdjhfaaDoor

/- forge.Batch, whatever is handed in. Condition: the package-level variables read as listed. -/
namespace Go.Proofs.YtaekabhcgdjhfaaDoor
open Go.ChangeShapes Go.WideShapes Go.ChangeAt Go.RowKit
set_option linter.unusedVariables false
theorem wrap_nat (x k : Nat) : IntKind.u64.wrap ((x : Int) + (k : Int)) = (((x + k) % 18446744073709551616 : Nat) : Int) := by
  simp [IntKind.wrap, IntKind.bits, IntKind.signed]
/-- does the proof lead to the log's root? -/
def verB (x sz : Nat) (L D : List ByteArray) (P : List (List UInt8)) : Prop := batchK x sz D.length P.length = 0 ∧ rootB x sz (D.map leafH) P = treeB L 0 sz
theorem leafH_32 (D : List ByteArray) : H32 (D.map leafH) := fun y hy => by
  obtain ⟨s, _, rfl⟩ := List.mem_map.1 hy
  exact leafH_length _
theorem verB_of {x sz : Nat} {L D : List ByteArray} {P : List (List UInt8)} (h : verB x sz L D P) : D.length ≠ 0 ∧ x + D.length ≤ sz ∧ (batchL 64 x ((x : Int) + D.length) 0 sz).length = P.length := by
  have := h.1
  unfold batchK at this
  split at this
  · cases this
  · split at this
    · cases this
    · split at this
      · cases this
      · exact ⟨by assumption, by omega, by rename_i q; exact Decidable.byContradiction fun e => q e⟩
theorem fver_any (a : Nat → Addr) (B x sz : Nat) (L D : List ByteArray) (P : List (List UInt8)) (A G : Option Addr) (n m c k : Nat) (w : World) (hE : Env B a w) (hx : x < 18446744073709551616) (hs : sz < 18446744073709551616) (hl : HIn w G n k (D.map leafH)) (hp : HIn w A m c P) :
    Calls Tryd.prog 21 #[.int .u64 x, .int .u64 sz, .slice G n k, .slice A m c, hv (treeB L 0 sz)] w fun ev w' => ev = .returned (if batchK x sz D.length P.length ≠ 0 then errV a (batchK x sz D.length P.length) else if rootB x sz (D.map leafH) P = treeB L 0 sz then .nilIface else errV a 10) ∧ Below w.heap.size w w' := by
  have e1 := hl.2.1
  have e2 := hp.2.1
  have e3 : (D.map leafH).length = D.length := List.length_map ..
  rw [← e3]
  subst e1 e2
  by_cases hk : batchK x sz (D.map leafH).length P.length = 0
  · rw [if_neg (fun q => q hk)]
    exact verify_ok a B x sz G A k c _ P _ (treeB_len _ _ _) w hE hl hp (by omega) (by omega) (by omega) (by omega) hk
  · rw [if_pos hk]
    exact verify_bad a B x sz G A _ _ k c _ (treeB_len _ _ _) w hE (by omega) (by omega) (by omega) (by omega) (Nat.le_trans hl.2.2.1 hl.2.2.2.1) (Nat.le_trans hp.2.2.1 hp.2.2.2.1) _ rfl hk
theorem lleaf_each (a : Nat → Addr) (B base b q : Nat) (v : Value) (L : List ByteArray) (w : World) (hE : Env B a w) (h : LogAt base b v L w) (hq : q < 18446744073709551616) :
    Calls Tryd.prog 16 #[.pointer (some ⟨b, 0, none⟩), .int .u64 q] w fun ev w' => (∃ y er, ev = .returned (.tuple #[.string y, er]) ∧ ((er = .nilIface ∧ L[q]? = some y) ∨ (er = .iface 169 (.pointer (some (a 5))) ∧ L.length ≤ q))) ∧ Below w.heap.size w w' := by
  by_cases hl : q < L.length
  · obtain ⟨y, hy⟩ : ∃ y, L[q]? = some y := ⟨_, List.getElem?_eq_getElem hl⟩
    exact (lleaf_ok base b v L w h q y hy).mono (fun _ _ r => ⟨⟨y, _, r.1, .inl ⟨rfl, hy⟩⟩, by rw [r.2]; exact Below.refl _ _⟩)
  · exact (lleaf_off a B base b v L w hE h q (by omega) (by omega)).mono (fun _ _ r => ⟨⟨_, _, r.1, .inr ⟨rfl, by omega⟩⟩, r.2⟩)
theorem take_eq {D L : List ByteArray} {x k : Nat} {d y : ByteArray} (hd : D[k]? = some d) (hy : L[x + k]? = some y) : decide (D.take (k + 1) = (L.drop x).take (k + 1)) = (decide (D.take k = (L.drop x).take k) && decide (d = y)) := by
  have e : (L.drop x)[k]? = some y := by rw [List.getElem?_drop]; exact hy
  have l1 := (List.getElem?_eq_some_iff.1 hd).1
  have l2 := (List.getElem?_eq_some_iff.1 e).1
  rw [List.take_add_one, List.take_add_one, hd, e]
  by_cases q : D.take k = (L.drop x).take k
  · rw [q]; by_cases r : d = y <;> simp [r]
  · rw [decide_eq_false q, Bool.false_and]
    refine decide_eq_false (fun h => q ?_)
    exact (List.append_inj h (by rw [List.length_take, List.length_take]; omega)).1

set_option maxRecDepth 100000 in
set_option maxHeartbeats 8000000 in
theorem fbat_bad (a : Nat → Addr) (B base b : Nat) (v : Value) (L D : List ByteArray) (P : List (List UInt8)) (x n sz : Nat) (S : Option Addr) (e : Nat) (A : Option Addr) (m c : Nat) (w : World) (hE : Env B a w) (h : LogAt base b v L w) (hx : x < 18446744073709551616) (hs : sz ≤ L.length) (hS : SIn w S n e D) (hn9 : n ≤ 1000000) (hsmall : ∀ s ∈ D, s.size ≤ 100000000000) (hp : HIn w A m c P) (hv : ¬ verB x sz L D P) :
    Calls Tryd.prog 20 #[.pointer (some ⟨b, 0, none⟩), .int .u64 x, .int .u64 sz, .slice S n e, .slice A m c] w fun ev w' => ev = .returned (.tuple #[.string ⟨#[]⟩, .string ⟨#[]⟩, .bool false]) ∧ Below w.heap.size w w' := by
  have hL := h.1.1
  obtain ⟨i0, hii, hz0, hz1, hz2⟩ := info_parts info_hash
  obtain ⟨vr, evr, Hvr, Zvr, Ivr, Ovr⟩ := row_of (treeB L 0 sz) (treeB_len _ _ _)
  have HRT : Hid (Calls Tryd.prog 11 #[.pointer (some ⟨b, 0, none⟩), .int .u64 sz] w fun ev w' => ev = .returned (.tuple #[.agg vr, .nilIface]) ∧ Below w.heap.size w w') := Lib.hid (by
    have := lroot_ok a B base b v L sz w hE h (by omega) (by omega)
    rw [evr] at this; exact this)
  obtain ⟨qe, HVE⟩ : ∃ qe, (if batchK x sz D.length P.length ≠ 0 then errV a (batchK x sz D.length P.length) else if rootB x sz (D.map leafH) P = treeB L 0 sz then .nilIface else errV a 10) = .iface 169 (.pointer (some qe)) := by
    by_cases hk : batchK x sz D.length P.length ≠ 0
    · rw [if_pos hk]; exact ⟨_, rfl⟩
    · rw [if_neg hk]
      by_cases hr : rootB x sz (D.map leafH) P = treeB L 0 sz
      · exact absurd ⟨by simpa using hk, hr⟩ hv
      · rw [if_neg hr]; exact ⟨_, rfl⟩
  have HVF : Hid (∀ (G : Option Addr) (k' : Nat) w, Env B a w → HIn w G n k' (D.map leafH) → HIn w A m c P → Calls Tryd.prog 21 #[.int .u64 x, .int .u64 sz, .slice G n k', .slice A m c, .agg vr] w fun e w' => e = .returned (.iface 169 (.pointer (some qe))) ∧ Below w.heap.size w w') := Lib.hid (fun G k' w e q1 q2 => by
    have := fver_any a B x sz L D P A G n m c k' w e hx (by omega) q1 q2
    rw [HVE, evr] at this; exact this)
  have HDL : Hid (∀ (k : Nat) (d : ByteArray), D[k]? = some d → d.size ≤ 100000000000) := Lib.hid (fun k d hd => hsmall d (List.mem_of_getElem? hd))
  have HN := Lib.hid (show sz ≤ L.length ∧ n ≤ 1000000 ∧ L.length ≤ 1048576 ∧ D.length = n from ⟨hs, hn9, by omega, hS.1⟩)
  have HSMALL := Lib.hid hsmall
  have HE := Lib.hid hE
  have HL := Lib.hid h
  have HP := Lib.hid hp
  have HS := Lib.hid hS
  have HXX := Lib.hid hx
  have HM : Hid (∀ k : Nat, (D.map leafH).take (k + 1) = (D.map leafH).take k ++ ((D[k]?).map leafH).toList) := Lib.hid (fun k => by rw [List.take_add_one, List.getElem?_map])
  have HHL : Hid ((D.map leafH).length = n) := Lib.hid (by rw [List.length_map]; exact hS.1)
  have HH32 := Lib.hid (leafH_32 D)
  have HVH := Lib.hid hv
  skip
  clear hE h hp hS evr hs hL HVE hsmall hx hv 
  obtain ⟨H, hH⟩ : ∃ H, D.map leafH = H := ⟨_, rfl⟩
  rw [hH] at HVF HM HHL HH32
  clear hH
  go_enter Tryd.func20, Tryd.ntmps20
  go_wp2_with fail
  refine HRT.out.mono ?_
  rintro ev w1 ⟨rfl, b1⟩
  go_upto_region 2 with (refine wpList_store_row_any rfl 34 _ _ rfl w1.heap.size vr rfl rfl 34 _ (heap_at _ _ _ rfl) Ivr.out (by rw [Zvr.out]; rfl) Ovr.out ?_; intro w2 hbN hgN hsN; have b2 : Below w1.heap.size w1 w2 := ((Below.refl _ w1).alloc (Nat.le_refl _) _).trans (hbN.to_below (by simp) (fun k hk q => by omega)); have Rw2 := Lib.hid hgN; clear hbN hgN hsN)
  have HB2 : Hid (Below w.heap.size w w2) := Lib.hid (b1.trans (b2.mono b1.size))
  clear b1 b2
  go_wp2
  go_loopw [15, 16, 34] (fun o f i wr => ∃ k Aq cq, ∃ sb : Bool, k ≤ n ∧ i = .int .i64 (k : Nat) ∧ f = .bool sb ∧ o = .slice Aq k cq ∧ k ≤ cq ∧ Hid (x + n ≤ L.length → sb = decide (D.take k = (L.drop x).take k)) ∧ Hid (wr.ownsRow w2.heap.size 34 32 (.slice Aq k cq) k (hashCells (H.take k))) ∧ Hid (Gr w2 wr)) (fun _ _ i _ => n - (intOf i).toNat)
  case atStart => exact ⟨0, none, 0, true, Nat.zero_le _, rfl, rfl, rfl, Nat.le_refl _, Lib.hid (fun _ => by simp), Lib.hid (by simpa [hashCells] using World.ownsRow_nil _ _ _ _), Lib.hid (Gr.refl _)⟩
  case round =>
    obtain ⟨k, Aq, cq, sb, hk, rfl, rfl, rfl, hkc, HBB, HO, HG⟩ := hrel
    have HBR : Hid (Below w.heap.size w wr) := Lib.hid (HB2.out.trans (HG.out.mono HB2.out.size))
    by_cases hlt : k < n
    · obtain ⟨d, hd⟩ : ∃ s, D[k]? = some s := ⟨_, List.getElem?_eq_getElem (by have := HN.out; omega)⟩
      obtain ⟨g, o, rfl, hc0, hg, hsz⟩ := HS.out.at hd
      have hc := cell_below HBR.out hc0 hg
      have hd6 := HDL.out k d hd
      obtain ⟨vy, evy, Hvy, Zvy, Ivy, Ovy⟩ := row_of (leafH d) (leafH_length _)
      have HX := Lib.hid (And.intro (leafH_length d) Hvy.out)
      have HLF : Hid (∀ w, Env B a w → Calls Tryd.prog 13 #[.string d] w fun ev w' => ev = .returned (.agg vy) ∧ Below w.heap.size w w') := Lib.hid (fun w e => by
        have := hleaf_any d w (by omega) e.tab
        rw [evy] at this; exact this)
      have HTK : Hid (H.take (k + 1) = H.take k ++ [leafH d]) := Lib.hid (by rw [HM.out, hd]; rfl)
      obtain ⟨outk, houtk⟩ : ∃ o, H.take k = o := ⟨_, rfl⟩
      rw [houtk] at HO HTK
      have HDD := Lib.hid hd
      have i0' : (0 : Int) ≤ k := by omega
      have i1 : (k : Int) < n := by omega
      have hwk : IntKind.u64.wrap (k : Int) = k := IntWalk.u64_in _ (by omega)
      obtain ⟨q, hq⟩ : ∃ q, (x + k) % 18446744073709551616 = q := ⟨_, rfl⟩
      have HQ : Hid (x + n ≤ L.length → q = x + k) := Lib.hid (fun hle => by have := HN.out; omega)
      have HQ9 : Hid (q < 18446744073709551616) := Lib.hid (by omega)
      have hwx : IntKind.u64.wrap ((x : Int) + k) = (q : Int) := by rw [wrap_nat, hq]
      clear hd hc0 evy houtk hg hq
      go_wp2_with fail
      refine (HLF.out wr (HE.out.step HBR.out)).mono ?_
      rintro ev w3 ⟨rfl, b3⟩
      have HG3 : Hid (Gr w2 w3) := Lib.hid (show Below w2.heap.size w2 w3 from HG.out.trans (b3.mono HG.out.size))
      have bW : Hid (Below wr.heap.size wr w3) := Lib.hid b3
      have HO2 : Hid ((w3.alloc (.cells vy 34)).ownsRow w2.heap.size 34 32 (.slice Aq k cq) k (hashCells outk)) := Lib.hid (own_below (own_below HO.out b3 (Nat.le_refl _)) ((Below.refl _ _).alloc (Nat.le_refl _) _) (Nat.le_refl _))
      clear b3
      go_wp2_with (first
        | (refine wpList_buildSlice_row rfl 24 34 _ vy _ 32 rfl rfl Tryd.underlying24 Tryd.sizeOf34 Tryd.zeroValue34 rfl Zvy.out (by omega) (by omega) ?_)
        | (at_builtin; go_loud (refine wpList_append_list rfl _ _ 24 rfl w2.heap.size w3.heap.size 34 i0 _ 32 32 Tryd.underlying24 hii hz0 hz1 hz2 rfl (by omega) (.slice Aq k cq) _ k 1 (hashCells outk) (hashCells [leafH d]) rfl rfl (HO2.out) (own_one w3 w3.heap.size vy (leafH d) HX.out.1 HX.out.2 (Nat.le_refl _)) (hashCells_cell _) (by unfold maxLen; omega) (by omega) (by simp; have := (show Below w2.heap.size w2 w3 from HG3.out).size; omega) ?_); intro v' w9 hown hgrow hblk; obtain ⟨A9, c9, rfl, hc9⟩ := own_shape hown; have HN9 := Lib.hid (And.intro hown (And.intro hgrow hblk)); clear hown hgrow hblk))
      have HG9 : Hid (Gr w2 w9) := Lib.hid ((((Below.refl _ w3).alloc (Nat.le_refl _) _).mono (Below.size HG3.out) |> (show Below w2.heap.size w2 w3 from HG3.out).trans).grown HN9.out.2.1 (by simp; have := (show Below w2.heap.size w2 w3 from HG3.out).size; omega) (fun q hq => (HO2.out.lt q hq).1))
      have HB9 : Hid (Below w.heap.size w w9) := Lib.hid (HB2.out.trans (Below.mono HG9.out HB2.out.size))
      refine (lleaf_each a B base b q v L w9 (HE.out.step HB9.out) (HL.out.below HB9.out) HQ9.out).mono ?_
      rintro ev w10 ⟨⟨y, er, rfl, her⟩, b10⟩
      have HG10 : Hid (Gr w2 w10) := Lib.hid (show Below w2.heap.size w2 w10 from HG9.out.trans (b10.mono (Below.size HG9.out)))
      have HO10 : Hid (w10.ownsRow w2.heap.size 34 32 (.slice A9 (k + 1) c9) (k + 1) (hashCells outk ++ hashCells [leafH d])) := Lib.hid (own_below HN9.out.1 b10 (Nat.le_refl _))
      clear b10 hwx
      rcases her with ⟨rfl, hy⟩ | ⟨rfl, hy⟩
      · have HQY : Hid (x + n ≤ L.length → L[x + k]? = some y) := Lib.hid (fun hle => by rw [← HQ.out hle]; exact hy)
        clear hy
        cases sb with
        | false =>
          go_wp2
          go_roundw
          case rel => exact ⟨k + 1, A9, c9, false, by omega, by go_num, rfl, rfl, hc9, Lib.hid (fun hle => by rw [take_eq HDD.out (HQY.out hle), ← HBB.out hle]; simp), Lib.hid (own_congr HO10.out rfl (by rw [HTK.out, hashCells_append])), HG10⟩
          case measure => simp [intOf]; omega
        | true =>
          by_cases hdy : d = y
          · subst hdy
            have hdd : (d == d) = true := (Go.MapKept.bytes_beq d d).2 rfl
            go_wp2
            go_roundw
            case rel => exact ⟨k + 1, A9, c9, true, by omega, by go_num, rfl, rfl, hc9, Lib.hid (fun hle => by rw [take_eq HDD.out (HQY.out hle), ← HBB.out hle]; simp), Lib.hid (own_congr HO10.out rfl (by rw [HTK.out, hashCells_append])), HG10⟩
            case measure => simp [intOf]; omega
          · have hq1 : ¬ d.toList = y.toList := fun h => by rw [Go.ByteArray.toList_eq, Go.ByteArray.toList_eq] at h; exact hdy (ByteArray.ext (Array.toList_inj.1 h))
            have hq2 : decide (d.toList = y.toList) = false := by simp [hq1]
            have hq3 : (d.toList == y.toList) = false := by simp [hq1]
            have hq4 : decide (d = y) = false := by simp [hdy]
            have hq5 : (d == y) = false := by cases h : (d == y) with | false => rfl | true => exact absurd ((Go.MapKept.bytes_beq d y).1 h) hdy
            go_wp2
            go_roundw
            case rel => exact ⟨k + 1, A9, c9, false, by omega, by go_num, rfl, rfl, hc9, Lib.hid (fun hle => by rw [take_eq HDD.out (HQY.out hle), ← HBB.out hle]; simp [hdy]), Lib.hid (own_congr HO10.out rfl (by rw [HTK.out, hashCells_append])), HG10⟩
            case measure => simp [intOf]; omega
      · have HQB := Lib.hid hy
        clear hy
        cases sb with
        | false =>
          go_wp2
          go_roundw
          case rel => exact ⟨k + 1, A9, c9, false, by omega, by go_num, rfl, rfl, hc9, Lib.hid (fun hle => False.elim (by have := HQ.out hle; have := HQB.out; omega)), Lib.hid (own_congr HO10.out rfl (by rw [HTK.out, hashCells_append])), HG10⟩
          case measure => simp [intOf]; omega
        | true =>
          go_wp2
          go_roundw
          case rel => exact ⟨k + 1, A9, c9, false, by omega, by go_num, rfl, rfl, hc9, Lib.hid (fun hle => False.elim (by have := HQ.out hle; have := HQB.out; omega)), Lib.hid (own_congr HO10.out rfl (by rw [HTK.out, hashCells_append])), HG10⟩
          case measure => simp [intOf]; omega
    · obtain rfl : n = k := by omega
      have HT1 : Hid (H.take n = H) := Lib.hid (List.take_of_length_le (by rw [HHL.out]; exact Nat.le_refl _))
      rw [HT1.out] at HO
      have HI1 : Hid (HIn wr Aq n cq H) := Lib.hid (own_hin HO.out HH32.out HHL.out)
      skip
      have RR : Hid (wr.heap[w1.heap.size]? = some (.cells vr 34 (0, 0))) := Lib.hid ((Below.block (show Below w2.heap.size w2 wr from HG.out) _ (Array.getElem?_eq_some_iff.1 Rw2.out).1).trans Rw2.out)
      go_wp2_with (refine wpList_load_row_g rfl 34 _ rfl w1.heap.size rfl 34 vr (0, 0) _ RR.out Tryd.underlying34 rfl Ivr.out ?_)
      refine (HVF.out _ _ wr (HE.out.step HBR.out) HI1.out (HP.out.below HBR.out)).mono ?_
      rintro ev w4 ⟨rfl, b4⟩
      have HB4 : Hid (Below w.heap.size w w4) := Lib.hid (HBR.out.trans (b4.mono HBR.out.size))
      clear b4
      go_wp2
      go_ret3
      exact ⟨rfl, HB4.out⟩

set_option maxRecDepth 100000 in
set_option maxHeartbeats 8000000 in
theorem fbat_same (a : Nat → Addr) (B base b : Nat) (v : Value) (L D : List ByteArray) (P : List (List UInt8)) (x n sz : Nat) (S : Option Addr) (e : Nat) (A : Option Addr) (m c : Nat) (w : World) (hE : Env B a w) (h : LogAt base b v L w) (hx : x < 18446744073709551616) (hs : sz ≤ L.length) (hS : SIn w S n e D) (hn9 : n ≤ 1000000) (hsmall : ∀ s ∈ D, s.size ≤ 100000000000) (hp : HIn w A m c P) (hv : verB x sz L D P) (hsm : D = (L.drop x).take n) :
    Calls Tryd.prog 20 #[.pointer (some ⟨b, 0, none⟩), .int .u64 x, .int .u64 sz, .slice S n e, .slice A m c] w fun ev w' => (∃ s, ev = .returned (.tuple #[.string s, .string s, .bool false]) ∧ bOf s = soB L sz) ∧ Below w.heap.size w w' := by
  have hL := h.1.1
  obtain ⟨i0, hii, hz0, hz1, hz2⟩ := info_parts info_hash
  obtain ⟨vr, evr, Hvr, Zvr, Ivr, Ovr⟩ := row_of (treeB L 0 sz) (treeB_len _ _ _)
  have HRT : Hid (Calls Tryd.prog 11 #[.pointer (some ⟨b, 0, none⟩), .int .u64 sz] w fun ev w' => ev = .returned (.tuple #[.agg vr, .nilIface]) ∧ Below w.heap.size w w') := Lib.hid (by
    have := lroot_ok a B base b v L sz w hE h (by omega) (by omega)
    rw [evr] at this; exact this)
  have HVE : (if batchK x sz D.length P.length ≠ 0 then errV a (batchK x sz D.length P.length) else if rootB x sz (D.map leafH) P = treeB L 0 sz then .nilIface else errV a 10) = .nilIface := by
    rw [if_neg (by simp [hv.1]), if_pos hv.2]
  have HVO := Lib.hid (verB_of hv)
  have HSM : Hid (decide (D = (L.drop x).take n) = true) := Lib.hid (by simp [hsm])
  have HVF : Hid (∀ (G : Option Addr) (k' : Nat) w, Env B a w → HIn w G n k' (D.map leafH) → HIn w A m c P → Calls Tryd.prog 21 #[.int .u64 x, .int .u64 sz, .slice G n k', .slice A m c, .agg vr] w fun e w' => e = .returned .nilIface ∧ Below w.heap.size w w') := Lib.hid (fun G k' w e q1 q2 => by
    have := fver_any a B x sz L D P A G n m c k' w e hx (by omega) q1 q2
    rw [HVE, evr] at this; exact this)
  have HDL : Hid (∀ (k : Nat) (d : ByteArray), D[k]? = some d → d.size ≤ 100000000000) := Lib.hid (fun k d hd => hsmall d (List.mem_of_getElem? hd))
  have HN := Lib.hid (show sz ≤ L.length ∧ n ≤ 1000000 ∧ L.length ≤ 1048576 ∧ D.length = n from ⟨hs, hn9, by omega, hS.1⟩)
  have HSMALL := Lib.hid hsmall
  have HE := Lib.hid hE
  have HL := Lib.hid h
  have HP := Lib.hid hp
  have HS := Lib.hid hS
  have HXX := Lib.hid hx
  have HM : Hid (∀ k : Nat, (D.map leafH).take (k + 1) = (D.map leafH).take k ++ ((D[k]?).map leafH).toList) := Lib.hid (fun k => by rw [List.take_add_one, List.getElem?_map])
  have HHL : Hid ((D.map leafH).length = n) := Lib.hid (by rw [List.length_map]; exact hS.1)
  have HH32 := Lib.hid (leafH_32 D)
  have HVH := Lib.hid hv
  have HSMM := Lib.hid hsm
  clear hE h hp hS evr hs hL HVE hsmall hx hv hsm
  obtain ⟨H, hH⟩ : ∃ H, D.map leafH = H := ⟨_, rfl⟩
  rw [hH] at HVF HM HHL HH32
  clear hH
  go_enter Tryd.func20, Tryd.ntmps20
  go_wp2_with fail
  refine HRT.out.mono ?_
  rintro ev w1 ⟨rfl, b1⟩
  go_upto_region 2 with (refine wpList_store_row_any rfl 34 _ _ rfl w1.heap.size vr rfl rfl 34 _ (heap_at _ _ _ rfl) Ivr.out (by rw [Zvr.out]; rfl) Ovr.out ?_; intro w2 hbN hgN hsN; have b2 : Below w1.heap.size w1 w2 := ((Below.refl _ w1).alloc (Nat.le_refl _) _).trans (hbN.to_below (by simp) (fun k hk q => by omega)); have Rw2 := Lib.hid hgN; clear hbN hgN hsN)
  have HB2 : Hid (Below w.heap.size w w2) := Lib.hid (b1.trans (b2.mono b1.size))
  clear b1 b2
  go_wp2
  go_loopw [15, 16, 34] (fun o f i wr => ∃ k Aq cq, ∃ sb : Bool, k ≤ n ∧ i = .int .i64 (k : Nat) ∧ f = .bool sb ∧ o = .slice Aq k cq ∧ k ≤ cq ∧ Hid (x + n ≤ L.length → sb = decide (D.take k = (L.drop x).take k)) ∧ Hid (wr.ownsRow w2.heap.size 34 32 (.slice Aq k cq) k (hashCells (H.take k))) ∧ Hid (Gr w2 wr)) (fun _ _ i _ => n - (intOf i).toNat)
  case atStart => exact ⟨0, none, 0, true, Nat.zero_le _, rfl, rfl, rfl, Nat.le_refl _, Lib.hid (fun _ => by simp), Lib.hid (by simpa [hashCells] using World.ownsRow_nil _ _ _ _), Lib.hid (Gr.refl _)⟩
  case round =>
    obtain ⟨k, Aq, cq, sb, hk, rfl, rfl, rfl, hkc, HBB, HO, HG⟩ := hrel
    have HBR : Hid (Below w.heap.size w wr) := Lib.hid (HB2.out.trans (HG.out.mono HB2.out.size))
    by_cases hlt : k < n
    · obtain ⟨d, hd⟩ : ∃ s, D[k]? = some s := ⟨_, List.getElem?_eq_getElem (by have := HN.out; omega)⟩
      obtain ⟨g, o, rfl, hc0, hg, hsz⟩ := HS.out.at hd
      have hc := cell_below HBR.out hc0 hg
      have hd6 := HDL.out k d hd
      obtain ⟨vy, evy, Hvy, Zvy, Ivy, Ovy⟩ := row_of (leafH d) (leafH_length _)
      have HX := Lib.hid (And.intro (leafH_length d) Hvy.out)
      have HLF : Hid (∀ w, Env B a w → Calls Tryd.prog 13 #[.string d] w fun ev w' => ev = .returned (.agg vy) ∧ Below w.heap.size w w') := Lib.hid (fun w e => by
        have := hleaf_any d w (by omega) e.tab
        rw [evy] at this; exact this)
      have HTK : Hid (H.take (k + 1) = H.take k ++ [leafH d]) := Lib.hid (by rw [HM.out, hd]; rfl)
      obtain ⟨outk, houtk⟩ : ∃ o, H.take k = o := ⟨_, rfl⟩
      rw [houtk] at HO HTK
      have HDD := Lib.hid hd
      have i0' : (0 : Int) ≤ k := by omega
      have i1 : (k : Int) < n := by omega
      have hwk : IntKind.u64.wrap (k : Int) = k := IntWalk.u64_in _ (by omega)
      obtain ⟨q, hq⟩ : ∃ q, (x + k) % 18446744073709551616 = q := ⟨_, rfl⟩
      have HQ : Hid (x + n ≤ L.length → q = x + k) := Lib.hid (fun hle => by have := HN.out; omega)
      have HQ9 : Hid (q < 18446744073709551616) := Lib.hid (by omega)
      have hwx : IntKind.u64.wrap ((x : Int) + k) = (q : Int) := by rw [wrap_nat, hq]
      clear hd hc0 evy houtk hg hq
      go_wp2_with fail
      refine (HLF.out wr (HE.out.step HBR.out)).mono ?_
      rintro ev w3 ⟨rfl, b3⟩
      have HG3 : Hid (Gr w2 w3) := Lib.hid (show Below w2.heap.size w2 w3 from HG.out.trans (b3.mono HG.out.size))
      have bW : Hid (Below wr.heap.size wr w3) := Lib.hid b3
      have HO2 : Hid ((w3.alloc (.cells vy 34)).ownsRow w2.heap.size 34 32 (.slice Aq k cq) k (hashCells outk)) := Lib.hid (own_below (own_below HO.out b3 (Nat.le_refl _)) ((Below.refl _ _).alloc (Nat.le_refl _) _) (Nat.le_refl _))
      clear b3
      go_wp2_with (first
        | (refine wpList_buildSlice_row rfl 24 34 _ vy _ 32 rfl rfl Tryd.underlying24 Tryd.sizeOf34 Tryd.zeroValue34 rfl Zvy.out (by omega) (by omega) ?_)
        | (at_builtin; go_loud (refine wpList_append_list rfl _ _ 24 rfl w2.heap.size w3.heap.size 34 i0 _ 32 32 Tryd.underlying24 hii hz0 hz1 hz2 rfl (by omega) (.slice Aq k cq) _ k 1 (hashCells outk) (hashCells [leafH d]) rfl rfl (HO2.out) (own_one w3 w3.heap.size vy (leafH d) HX.out.1 HX.out.2 (Nat.le_refl _)) (hashCells_cell _) (by unfold maxLen; omega) (by omega) (by simp; have := (show Below w2.heap.size w2 w3 from HG3.out).size; omega) ?_); intro v' w9 hown hgrow hblk; obtain ⟨A9, c9, rfl, hc9⟩ := own_shape hown; have HN9 := Lib.hid (And.intro hown (And.intro hgrow hblk)); clear hown hgrow hblk))
      have HG9 : Hid (Gr w2 w9) := Lib.hid ((((Below.refl _ w3).alloc (Nat.le_refl _) _).mono (Below.size HG3.out) |> (show Below w2.heap.size w2 w3 from HG3.out).trans).grown HN9.out.2.1 (by simp; have := (show Below w2.heap.size w2 w3 from HG3.out).size; omega) (fun q hq => (HO2.out.lt q hq).1))
      have HB9 : Hid (Below w.heap.size w w9) := Lib.hid (HB2.out.trans (Below.mono HG9.out HB2.out.size))
      refine (lleaf_each a B base b q v L w9 (HE.out.step HB9.out) (HL.out.below HB9.out) HQ9.out).mono ?_
      rintro ev w10 ⟨⟨y, er, rfl, her⟩, b10⟩
      have HG10 : Hid (Gr w2 w10) := Lib.hid (show Below w2.heap.size w2 w10 from HG9.out.trans (b10.mono (Below.size HG9.out)))
      have HO10 : Hid (w10.ownsRow w2.heap.size 34 32 (.slice A9 (k + 1) c9) (k + 1) (hashCells outk ++ hashCells [leafH d])) := Lib.hid (own_below HN9.out.1 b10 (Nat.le_refl _))
      clear b10 hwx
      rcases her with ⟨rfl, hy⟩ | ⟨rfl, hy⟩
      · have HQY : Hid (x + n ≤ L.length → L[x + k]? = some y) := Lib.hid (fun hle => by rw [← HQ.out hle]; exact hy)
        clear hy
        cases sb with
        | false =>
          go_wp2
          go_roundw
          case rel => exact ⟨k + 1, A9, c9, false, by omega, by go_num, rfl, rfl, hc9, Lib.hid (fun hle => by rw [take_eq HDD.out (HQY.out hle), ← HBB.out hle]; simp), Lib.hid (own_congr HO10.out rfl (by rw [HTK.out, hashCells_append])), HG10⟩
          case measure => simp [intOf]; omega
        | true =>
          by_cases hdy : d = y
          · subst hdy
            have hdd : (d == d) = true := (Go.MapKept.bytes_beq d d).2 rfl
            go_wp2
            go_roundw
            case rel => exact ⟨k + 1, A9, c9, true, by omega, by go_num, rfl, rfl, hc9, Lib.hid (fun hle => by rw [take_eq HDD.out (HQY.out hle), ← HBB.out hle]; simp), Lib.hid (own_congr HO10.out rfl (by rw [HTK.out, hashCells_append])), HG10⟩
            case measure => simp [intOf]; omega
          · have hq1 : ¬ d.toList = y.toList := fun h => by rw [Go.ByteArray.toList_eq, Go.ByteArray.toList_eq] at h; exact hdy (ByteArray.ext (Array.toList_inj.1 h))
            have hq2 : decide (d.toList = y.toList) = false := by simp [hq1]
            have hq3 : (d.toList == y.toList) = false := by simp [hq1]
            have hq4 : decide (d = y) = false := by simp [hdy]
            have hq5 : (d == y) = false := by cases h : (d == y) with | false => rfl | true => exact absurd ((Go.MapKept.bytes_beq d y).1 h) hdy
            go_wp2
            go_roundw
            case rel => exact ⟨k + 1, A9, c9, false, by omega, by go_num, rfl, rfl, hc9, Lib.hid (fun hle => by rw [take_eq HDD.out (HQY.out hle), ← HBB.out hle]; simp [hdy]), Lib.hid (own_congr HO10.out rfl (by rw [HTK.out, hashCells_append])), HG10⟩
            case measure => simp [intOf]; omega
      · have HQB := Lib.hid hy
        clear hy
        cases sb with
        | false =>
          go_wp2
          go_roundw
          case rel => exact ⟨k + 1, A9, c9, false, by omega, by go_num, rfl, rfl, hc9, Lib.hid (fun hle => False.elim (by have := HQ.out hle; have := HQB.out; omega)), Lib.hid (own_congr HO10.out rfl (by rw [HTK.out, hashCells_append])), HG10⟩
          case measure => simp [intOf]; omega
        | true =>
          go_wp2
          go_roundw
          case rel => exact ⟨k + 1, A9, c9, false, by omega, by go_num, rfl, rfl, hc9, Lib.hid (fun hle => False.elim (by have := HQ.out hle; have := HQB.out; omega)), Lib.hid (own_congr HO10.out rfl (by rw [HTK.out, hashCells_append])), HG10⟩
          case measure => simp [intOf]; omega
    · obtain rfl : n = k := by omega
      have HT1 : Hid (H.take n = H) := Lib.hid (List.take_of_length_le (by rw [HHL.out]; exact Nat.le_refl _))
      rw [HT1.out] at HO
      have HI1 : Hid (HIn wr Aq n cq H) := Lib.hid (own_hin HO.out HH32.out HHL.out)
      have HSB : Hid (sb = decide (D = (L.drop x).take n)) := Lib.hid (by have := HBB.out (by have := HVO.out; have := HN.out; omega); rwa [List.take_of_length_le (by rw [HN.out.2.2.2]; exact Nat.le_refl _)] at this)
      have RR : Hid (wr.heap[w1.heap.size]? = some (.cells vr 34 (0, 0))) := Lib.hid ((Below.block (show Below w2.heap.size w2 wr from HG.out) _ (Array.getElem?_eq_some_iff.1 Rw2.out).1).trans Rw2.out)
      go_wp2_with (refine wpList_load_row_g rfl 34 _ rfl w1.heap.size rfl 34 vr (0, 0) _ RR.out Tryd.underlying34 rfl Ivr.out ?_)
      refine (HVF.out _ _ wr (HE.out.step HBR.out) HI1.out (HP.out.below HBR.out)).mono ?_
      rintro ev w4 ⟨rfl, b4⟩
      have HB4 : Hid (Below w.heap.size w w4) := Lib.hid (HBR.out.trans (b4.mono HBR.out.size))
      clear b4
      have hsb : sb = true := by have h1 := HSB.out; have h2 := HSM.out; rw [h1, h2]
      subst hsb
      go_wp2_with fail
      refine (so_any a B base b v L sz w4 (HE.out.step HB4.out) (HL.out.below HB4.out) (by have := HVO.out; have := HN.out; omega) HN.out.1).mono ?_
      rintro ev w7 ⟨⟨s, rfl, q1⟩, b7⟩
      have HQ := Lib.hid q1
      clear q1
      go_wp2
      go_ret3
      exact ⟨⟨s, rfl, HQ.out⟩, HB4.out.trans (b7.mono HB4.out.size)⟩

set_option maxRecDepth 100000 in
set_option maxHeartbeats 8000000 in
theorem fbat_part (a : Nat → Addr) (B base b : Nat) (v : Value) (L D : List ByteArray) (P : List (List UInt8)) (x n sz : Nat) (S : Option Addr) (e : Nat) (A : Option Addr) (m c : Nat) (w : World) (hE : Env B a w) (h : LogAt base b v L w) (hx : x < 18446744073709551616) (hs : sz ≤ L.length) (hS : SIn w S n e D) (hn9 : n ≤ 1000000) (hsmall : ∀ s ∈ D, s.size ≤ 100000000000) (hp : HIn w A m c P) (hv : verB x sz L D P) (hsm : D ≠ (L.drop x).take n) :
    Calls Tryd.prog 20 #[.pointer (some ⟨b, 0, none⟩), .int .u64 x, .int .u64 sz, .slice S n e, .slice A m c] w fun ev w' => PartPost (fWalk (saidL ((batchL 64 x ((x : Int) + n) 0 sz).zip P)) (claimLeaf D x) L (logText L) (claimText D x) 64 0 sz) ev ∧ Below w.heap.size w w' := by
  have hL := h.1.1
  obtain ⟨i0, hii, hz0, hz1, hz2⟩ := info_parts info_hash
  obtain ⟨vr, evr, Hvr, Zvr, Ivr, Ovr⟩ := row_of (treeB L 0 sz) (treeB_len _ _ _)
  have HRT : Hid (Calls Tryd.prog 11 #[.pointer (some ⟨b, 0, none⟩), .int .u64 sz] w fun ev w' => ev = .returned (.tuple #[.agg vr, .nilIface]) ∧ Below w.heap.size w w') := Lib.hid (by
    have := lroot_ok a B base b v L sz w hE h (by omega) (by omega)
    rw [evr] at this; exact this)
  have HVE : (if batchK x sz D.length P.length ≠ 0 then errV a (batchK x sz D.length P.length) else if rootB x sz (D.map leafH) P = treeB L 0 sz then .nilIface else errV a 10) = .nilIface := by
    rw [if_neg (by simp [hv.1]), if_pos hv.2]
  have HVO := Lib.hid (verB_of hv)
  have HSM : Hid (decide (D = (L.drop x).take n) = false) := Lib.hid (by simp [hsm])
  have HSL : Hid (∀ g o, S = some ⟨g, o, none⟩ → g < w.heap.size) := Lib.hid (by
    have hD0 : D ≠ [] := fun e => by have := HVO.out.1; rw [e] at this; exact this rfl
    rcases hS.2.2.2.2.2 with q | ⟨g', o', q1, q2⟩
    · exact absurd q hD0
    · intro g o q
      rw [q1] at q
      cases q
      exact rangeAt_lt q2 (by simpa using hD0))
  obtain ⟨l, hl⟩ : ∃ l, batchL 64 x ((x : Int) + n) 0 sz = l := ⟨_, rfl⟩
  have hln : l.length = m := by rw [← hl, ← hS.1, HVO.out.2.2]; exact hp.2.1
  have hv1 := HVO.out.1
  have hv2 := HVO.out.2.1
  have hn1 := hS.1
  have hPB : ∀ p ∈ l, PB p := fun p hpm => by
    rw [← hl] at hpm
    obtain ⟨q1, q2, q3⟩ := batchL_span 64 x ((x : Int) + n) 0 sz p (by omega) (by rw [pow2_64]; omega) hpm
    exact ⟨by omega, by omega, by omega, by omega⟩
  have hm9 : m ≤ 1000000 := by
    have := batchL_len 64 x ((x : Int) + n) 0 sz (by omega) (by rw [pow2_64]; omega)
    rw [hl] at this; omega
  have hBare : ∀ i, fBare (saidL (l.zip P)) 64 0 sz i → (x : Int) ≤ i ∧ i < (x : Int) + n := fun i hi => by
    have := (batch_fold (saidL (l.zip P)) x ((x : Int) + n) (claimLeaf D x) 64 0 sz P (by omega) (by rw [pow2_64]; omega) (by rw [hl, hln]; exact Nat.le_of_eq hp.2.1.symm) (fun p _ _ _ => by rw [hl])).2 i
    exact ⟨(this.1 hi).2.1, (this.1 hi).2.2⟩
  have HSHB : Hid (∀ w, Calls Tryd.prog 41 #[.int .u64 x, .int .u64 ((x : Int) + n), .int .u64 sz] w (ListPost 82 2 w l.length (spanCells l))) := Lib.hid (fun w => by rw [← hl]; exact batch_ok x ((x : Int) + n) sz w (by omega) (by omega) (by omega) (by omega))
  obtain ⟨out, hout⟩ : ∃ z, (fWalk (saidL ((batchL 64 x ((x : Int) + n) 0 sz).zip P)) (claimLeaf D x) L (logText L) (claimText D x) 64 0 sz) = z := ⟨_, rfl⟩
  rw [hl] at hout
  have HLB : Hid (l.length = m ∧ (∀ p ∈ l, PB p) ∧ m ≤ 1000000 ∧ (∀ i, fBare (saidL (l.zip P)) 64 0 sz i → (x : Int) ≤ i ∧ i < (x : Int) + n) ∧ fWalk (saidL (l.zip P)) (claimLeaf D x) L (logText L) (claimText D x) 64 0 sz = out) := Lib.hid ⟨hln, hPB, hm9, hBare, hout⟩
  rw [hl, hout]
  have hwn : IntKind.u64.wrap ((x : Int) + n) = (x : Int) + n := IntWalk.u64_in _ (by omega)
  have HWN := Lib.hid hwn
  clear hl hln hPB hm9 hBare hout hv1 hv2 hn1 hwn
  have HVF : Hid (∀ (G : Option Addr) (k' : Nat) w, Env B a w → HIn w G n k' (D.map leafH) → HIn w A m c P → Calls Tryd.prog 21 #[.int .u64 x, .int .u64 sz, .slice G n k', .slice A m c, .agg vr] w fun e w' => e = .returned .nilIface ∧ Below w.heap.size w w') := Lib.hid (fun G k' w e q1 q2 => by
    have := fver_any a B x sz L D P A G n m c k' w e hx (by omega) q1 q2
    rw [HVE, evr] at this; exact this)
  have HDL : Hid (∀ (k : Nat) (d : ByteArray), D[k]? = some d → d.size ≤ 100000000000) := Lib.hid (fun k d hd => hsmall d (List.mem_of_getElem? hd))
  have HN := Lib.hid (show sz ≤ L.length ∧ n ≤ 1000000 ∧ L.length ≤ 1048576 ∧ D.length = n from ⟨hs, hn9, by omega, hS.1⟩)
  have HSMALL := Lib.hid hsmall
  have HE := Lib.hid hE
  have HL := Lib.hid h
  have HP := Lib.hid hp
  have HS := Lib.hid hS
  have HXX := Lib.hid hx
  have HM : Hid (∀ k : Nat, (D.map leafH).take (k + 1) = (D.map leafH).take k ++ ((D[k]?).map leafH).toList) := Lib.hid (fun k => by rw [List.take_add_one, List.getElem?_map])
  have HHL : Hid ((D.map leafH).length = n) := Lib.hid (by rw [List.length_map]; exact hS.1)
  have HH32 := Lib.hid (leafH_32 D)
  have HVH := Lib.hid hv
  have HSMM := Lib.hid hsm
  clear hE h hp hS evr hs hL HVE hsmall hx hv hsm
  obtain ⟨H, hH⟩ : ∃ H, D.map leafH = H := ⟨_, rfl⟩
  rw [hH] at HVF HM HHL HH32
  clear hH
  go_enter Tryd.func20, Tryd.ntmps20
  go_wp2_with fail
  refine HRT.out.mono ?_
  rintro ev w1 ⟨rfl, b1⟩
  go_upto_region 2 with (refine wpList_store_row_any rfl 34 _ _ rfl w1.heap.size vr rfl rfl 34 _ (heap_at _ _ _ rfl) Ivr.out (by rw [Zvr.out]; rfl) Ovr.out ?_; intro w2 hbN hgN hsN; have b2 : Below w1.heap.size w1 w2 := ((Below.refl _ w1).alloc (Nat.le_refl _) _).trans (hbN.to_below (by simp) (fun k hk q => by omega)); have Rw2 := Lib.hid hgN; clear hbN hgN hsN)
  have HB2 : Hid (Below w.heap.size w w2) := Lib.hid (b1.trans (b2.mono b1.size))
  clear b1 b2
  go_wp2
  go_loopw [15, 16, 34] (fun o f i wr => ∃ k Aq cq, ∃ sb : Bool, k ≤ n ∧ i = .int .i64 (k : Nat) ∧ f = .bool sb ∧ o = .slice Aq k cq ∧ k ≤ cq ∧ Hid (x + n ≤ L.length → sb = decide (D.take k = (L.drop x).take k)) ∧ Hid (wr.ownsRow w2.heap.size 34 32 (.slice Aq k cq) k (hashCells (H.take k))) ∧ Hid (Gr w2 wr)) (fun _ _ i _ => n - (intOf i).toNat)
  case atStart => exact ⟨0, none, 0, true, Nat.zero_le _, rfl, rfl, rfl, Nat.le_refl _, Lib.hid (fun _ => by simp), Lib.hid (by simpa [hashCells] using World.ownsRow_nil _ _ _ _), Lib.hid (Gr.refl _)⟩
  case round =>
    obtain ⟨k, Aq, cq, sb, hk, rfl, rfl, rfl, hkc, HBB, HO, HG⟩ := hrel
    have HBR : Hid (Below w.heap.size w wr) := Lib.hid (HB2.out.trans (HG.out.mono HB2.out.size))
    by_cases hlt : k < n
    · obtain ⟨d, hd⟩ : ∃ s, D[k]? = some s := ⟨_, List.getElem?_eq_getElem (by have := HN.out; omega)⟩
      obtain ⟨g, o, rfl, hc0, hg, hsz⟩ := HS.out.at hd
      have hc := cell_below HBR.out hc0 hg
      have hd6 := HDL.out k d hd
      obtain ⟨vy, evy, Hvy, Zvy, Ivy, Ovy⟩ := row_of (leafH d) (leafH_length _)
      have HX := Lib.hid (And.intro (leafH_length d) Hvy.out)
      have HLF : Hid (∀ w, Env B a w → Calls Tryd.prog 13 #[.string d] w fun ev w' => ev = .returned (.agg vy) ∧ Below w.heap.size w w') := Lib.hid (fun w e => by
        have := hleaf_any d w (by omega) e.tab
        rw [evy] at this; exact this)
      have HTK : Hid (H.take (k + 1) = H.take k ++ [leafH d]) := Lib.hid (by rw [HM.out, hd]; rfl)
      obtain ⟨outk, houtk⟩ : ∃ o, H.take k = o := ⟨_, rfl⟩
      rw [houtk] at HO HTK
      have HDD := Lib.hid hd
      have i0' : (0 : Int) ≤ k := by omega
      have i1 : (k : Int) < n := by omega
      have hwk : IntKind.u64.wrap (k : Int) = k := IntWalk.u64_in _ (by omega)
      obtain ⟨q, hq⟩ : ∃ q, (x + k) % 18446744073709551616 = q := ⟨_, rfl⟩
      have HQ : Hid (x + n ≤ L.length → q = x + k) := Lib.hid (fun hle => by have := HN.out; omega)
      have HQ9 : Hid (q < 18446744073709551616) := Lib.hid (by omega)
      have hwx : IntKind.u64.wrap ((x : Int) + k) = (q : Int) := by rw [wrap_nat, hq]
      clear hd hc0 evy houtk hg hq
      go_wp2_with fail
      refine (HLF.out wr (HE.out.step HBR.out)).mono ?_
      rintro ev w3 ⟨rfl, b3⟩
      have HG3 : Hid (Gr w2 w3) := Lib.hid (show Below w2.heap.size w2 w3 from HG.out.trans (b3.mono HG.out.size))
      have bW : Hid (Below wr.heap.size wr w3) := Lib.hid b3
      have HO2 : Hid ((w3.alloc (.cells vy 34)).ownsRow w2.heap.size 34 32 (.slice Aq k cq) k (hashCells outk)) := Lib.hid (own_below (own_below HO.out b3 (Nat.le_refl _)) ((Below.refl _ _).alloc (Nat.le_refl _) _) (Nat.le_refl _))
      clear b3
      go_wp2_with (first
        | (refine wpList_buildSlice_row rfl 24 34 _ vy _ 32 rfl rfl Tryd.underlying24 Tryd.sizeOf34 Tryd.zeroValue34 rfl Zvy.out (by omega) (by omega) ?_)
        | (at_builtin; go_loud (refine wpList_append_list rfl _ _ 24 rfl w2.heap.size w3.heap.size 34 i0 _ 32 32 Tryd.underlying24 hii hz0 hz1 hz2 rfl (by omega) (.slice Aq k cq) _ k 1 (hashCells outk) (hashCells [leafH d]) rfl rfl (HO2.out) (own_one w3 w3.heap.size vy (leafH d) HX.out.1 HX.out.2 (Nat.le_refl _)) (hashCells_cell _) (by unfold maxLen; omega) (by omega) (by simp; have := (show Below w2.heap.size w2 w3 from HG3.out).size; omega) ?_); intro v' w9 hown hgrow hblk; obtain ⟨A9, c9, rfl, hc9⟩ := own_shape hown; have HN9 := Lib.hid (And.intro hown (And.intro hgrow hblk)); clear hown hgrow hblk))
      have HG9 : Hid (Gr w2 w9) := Lib.hid ((((Below.refl _ w3).alloc (Nat.le_refl _) _).mono (Below.size HG3.out) |> (show Below w2.heap.size w2 w3 from HG3.out).trans).grown HN9.out.2.1 (by simp; have := (show Below w2.heap.size w2 w3 from HG3.out).size; omega) (fun q hq => (HO2.out.lt q hq).1))
      have HB9 : Hid (Below w.heap.size w w9) := Lib.hid (HB2.out.trans (Below.mono HG9.out HB2.out.size))
      refine (lleaf_each a B base b q v L w9 (HE.out.step HB9.out) (HL.out.below HB9.out) HQ9.out).mono ?_
      rintro ev w10 ⟨⟨y, er, rfl, her⟩, b10⟩
      have HG10 : Hid (Gr w2 w10) := Lib.hid (show Below w2.heap.size w2 w10 from HG9.out.trans (b10.mono (Below.size HG9.out)))
      have HO10 : Hid (w10.ownsRow w2.heap.size 34 32 (.slice A9 (k + 1) c9) (k + 1) (hashCells outk ++ hashCells [leafH d])) := Lib.hid (own_below HN9.out.1 b10 (Nat.le_refl _))
      clear b10 hwx
      rcases her with ⟨rfl, hy⟩ | ⟨rfl, hy⟩
      · have HQY : Hid (x + n ≤ L.length → L[x + k]? = some y) := Lib.hid (fun hle => by rw [← HQ.out hle]; exact hy)
        clear hy
        cases sb with
        | false =>
          go_wp2
          go_roundw
          case rel => exact ⟨k + 1, A9, c9, false, by omega, by go_num, rfl, rfl, hc9, Lib.hid (fun hle => by rw [take_eq HDD.out (HQY.out hle), ← HBB.out hle]; simp), Lib.hid (own_congr HO10.out rfl (by rw [HTK.out, hashCells_append])), HG10⟩
          case measure => simp [intOf]; omega
        | true =>
          by_cases hdy : d = y
          · subst hdy
            have hdd : (d == d) = true := (Go.MapKept.bytes_beq d d).2 rfl
            go_wp2
            go_roundw
            case rel => exact ⟨k + 1, A9, c9, true, by omega, by go_num, rfl, rfl, hc9, Lib.hid (fun hle => by rw [take_eq HDD.out (HQY.out hle), ← HBB.out hle]; simp), Lib.hid (own_congr HO10.out rfl (by rw [HTK.out, hashCells_append])), HG10⟩
            case measure => simp [intOf]; omega
          · have hq1 : ¬ d.toList = y.toList := fun h => by rw [Go.ByteArray.toList_eq, Go.ByteArray.toList_eq] at h; exact hdy (ByteArray.ext (Array.toList_inj.1 h))
            have hq2 : decide (d.toList = y.toList) = false := by simp [hq1]
            have hq3 : (d.toList == y.toList) = false := by simp [hq1]
            have hq4 : decide (d = y) = false := by simp [hdy]
            have hq5 : (d == y) = false := by cases h : (d == y) with | false => rfl | true => exact absurd ((Go.MapKept.bytes_beq d y).1 h) hdy
            go_wp2
            go_roundw
            case rel => exact ⟨k + 1, A9, c9, false, by omega, by go_num, rfl, rfl, hc9, Lib.hid (fun hle => by rw [take_eq HDD.out (HQY.out hle), ← HBB.out hle]; simp [hdy]), Lib.hid (own_congr HO10.out rfl (by rw [HTK.out, hashCells_append])), HG10⟩
            case measure => simp [intOf]; omega
      · have HQB := Lib.hid hy
        clear hy
        cases sb with
        | false =>
          go_wp2
          go_roundw
          case rel => exact ⟨k + 1, A9, c9, false, by omega, by go_num, rfl, rfl, hc9, Lib.hid (fun hle => False.elim (by have := HQ.out hle; have := HQB.out; omega)), Lib.hid (own_congr HO10.out rfl (by rw [HTK.out, hashCells_append])), HG10⟩
          case measure => simp [intOf]; omega
        | true =>
          go_wp2
          go_roundw
          case rel => exact ⟨k + 1, A9, c9, false, by omega, by go_num, rfl, rfl, hc9, Lib.hid (fun hle => False.elim (by have := HQ.out hle; have := HQB.out; omega)), Lib.hid (own_congr HO10.out rfl (by rw [HTK.out, hashCells_append])), HG10⟩
          case measure => simp [intOf]; omega
    · obtain rfl : n = k := by omega
      have HT1 : Hid (H.take n = H) := Lib.hid (List.take_of_length_le (by rw [HHL.out]; exact Nat.le_refl _))
      rw [HT1.out] at HO
      have HI1 : Hid (HIn wr Aq n cq H) := Lib.hid (own_hin HO.out HH32.out HHL.out)
      have HSB : Hid (sb = decide (D = (L.drop x).take n)) := Lib.hid (by have := HBB.out (by have := HVO.out; have := HN.out; omega); rwa [List.take_of_length_le (by rw [HN.out.2.2.2]; exact Nat.le_refl _)] at this)
      have RR : Hid (wr.heap[w1.heap.size]? = some (.cells vr 34 (0, 0))) := Lib.hid ((Below.block (show Below w2.heap.size w2 wr from HG.out) _ (Array.getElem?_eq_some_iff.1 Rw2.out).1).trans Rw2.out)
      go_wp2_with (refine wpList_load_row_g rfl 34 _ rfl w1.heap.size rfl 34 vr (0, 0) _ RR.out Tryd.underlying34 rfl Ivr.out ?_)
      refine (HVF.out _ _ wr (HE.out.step HBR.out) HI1.out (HP.out.below HBR.out)).mono ?_
      rintro ev w4 ⟨rfl, b4⟩
      have HB4 : Hid (Below w.heap.size w w4) := Lib.hid (HBR.out.trans (b4.mono HBR.out.size))
      clear b4
      have hsb : sb = false := by have h1 := HSB.out; have h2 := HSM.out; rw [h1, h2]
      subst hsb
      have hwn := HWN.out
      go_wp2_with fail
      refine (HSHB.out w4).mono ?_
      rintro ev w5 ⟨sv, rfl, hown, b5⟩
      have HRD := Lib.hid (rd_own hown)
      obtain ⟨Asv, csv, rfl, _⟩ := own_shape hown
      have HB5 : Hid (Below w.heap.size w w5) := Lib.hid (HB4.out.trans (b5.mono HB4.out.size))
      clear hown b5 hwn
      go_wp2_with fail
      refine (laid_any' l P (.slice Asv l.length csv) A m c w5 (by rw [HLB.out.1] at HRD; have := HRD.out; rw [HLB.out.1]; exact this) HLB.out.1 (HP.out.below HB5.out) HLB.out.2.1 (by have := HLB.out.2.2.1; omega)).mono ?_
      rintro ev w6 ⟨rfl, hsd, b6⟩
      have HSD := Lib.hid hsd
      obtain ⟨mb, hmb⟩ : ∃ z, w5.heap.size = z := ⟨_, rfl⟩
      rw [hmb] at HSD ⊢
      have HB6 : Hid (Below w.heap.size w w6) := Lib.hid (HB5.out.trans (b6.mono HB5.out.size))
      clear hsd b6 hmb
      obtain ⟨w7, hw7⟩ : ∃ z, w6.alloc (.cells #[.pointer (some ⟨b, 0, none⟩), .map (some mb), .int .u64 x, .slice S n e] 78) = z := ⟨_, rfl⟩
      have R7 : Hid (w7.heap[w6.heap.size]? = some (.cells #[.pointer (some ⟨b, 0, none⟩), .map (some mb), .int .u64 x, .slice S n e] 78 (0, 0))) := Lib.hid (by rw [← hw7]; exact heap_at _ _ _ rfl)
      have B67 : Hid (Below w6.heap.size w6 w7) := Lib.hid (by rw [← hw7]; exact (Below.refl _ _).alloc (Nat.le_refl _) _)
      have HB7 : Hid (Below w.heap.size w w7) := Lib.hid (HB6.out.trans (B67.out.mono HB6.out.size))
      have HPP : Hid (PartPre a B base b v L w6.heap.size mb x S n e D (l.zip P) w7) := Lib.hid ⟨HE.out.step HB7.out, HL.out.below HB7.out, R7.out, HSD.out.below B67.out HSD.out.lt, HS.out.below HB7.out, HSMALL.out, fun g o q => Nat.lt_of_lt_of_le (HSL.out g o q) HB7.out.size⟩
      obtain ⟨Cb, hCb⟩ : ∃ z, w6.heap.size = z := ⟨_, rfl⟩
      rw [hCb] at HPP
      have HW7 := Lib.hid hw7
      have HPT : Hid (Calls Tryd.prog 32 #[.pointer (some ⟨Cb, 0, none⟩), .int .u64 sz] w7 fun ev w' => PartPost out ev ∧ Below w7.heap.size w7 w') := Lib.hid (by
        have := part_any a B base b v L Cb mb x S n e D (l.zip P) sz w7 HPP.out (by omega) (by have := HVO.out; have := HN.out; omega) HN.out.1 HLB.out.2.2.2.1
        rw [HLB.out.2.2.2.2] at this; exact this)
      have HCB := Lib.hid hCb
      clear hw7 hCb
      go_wp2_with fail
      rw [HW7.out, HCB.out]
      refine HPT.out.mono ?_
      rintro ev w8 ⟨hpo, b8⟩
      have HB8 : Hid (Below w.heap.size w w8) := Lib.hid (HB7.out.trans (b8.mono HB7.out.size))
      clear b8
      cases out with
      | none =>
        obtain rfl := hpo
        go_wp2
        go_ret3
        exact ⟨rfl, HB8.out⟩
      | some r =>
        obtain ⟨s, t, rfl, hr⟩ := hpo
        have HR := Lib.hid hr
        clear hr
        go_wp2
        go_ret3
        exact ⟨⟨s, t, rfl, HR.out⟩, HB8.out⟩

end Go.Proofs.YtaekabhcgdjhfaaDoor

/- What a batch proof that verifies says, where its leaves are others than the log's. Plain. -/
namespace Go.Proofs.YtaekabhcgdjhfaaDoor
open Go.ChangeShapes Go.WideShapes Go.ChangeAt Go.RowKit
set_option linter.unusedVariables false
theorem claim_batch {L D : List ByteArray} {P : List (List UInt8)} {x n sz : Nat} (hL : LogOk L) (hv : verB x sz L D P) (hn : D.length = n) (hs : sz ≤ L.length) (hne : D ≠ (L.drop x).take n) (h32 : H32 P) (hM : ∀ s ∈ D, s.size ≤ 10000000) :
    ∃ r, fWalk (saidL ((batchL 64 x ((x : Int) + n) 0 sz).zip P)) (claimLeaf D x) L (logText L) (claimText D x) 64 0 sz = some r ∧ r.1 ≠ r.2 ∧ shaB r.1 = shaB r.2 ∧ r.1.length ≤ 10000001 ∧ r.2.length ≤ 10000001 := by
  subst hn
  obtain ⟨v1, v2, v3⟩ := verB_of hv
  have hL1 := hL.1
  have h64 : (sz : Int) - 0 ≤ pow2 64 := by rw [pow2_64]; omega
  obtain ⟨said, hsd⟩ : ∃ f, saidL ((batchL 64 x ((x : Int) + D.length) 0 sz).zip P) = f := ⟨_, rfl⟩
  have hs32 : ∀ p h, said p = some h → h.length = 32 := by rw [← hsd]; exact zip_32 h32
  have hf := batch_fold said x ((x : Int) + D.length) (leafAt x (D.map leafH)) 64 0 sz P (by omega) h64 (Nat.le_of_eq v3) (fun p _ _ _ => by rw [hsd])
  have hb : ∀ i, fBare said 64 0 sz i → (x : Int) ≤ i ∧ i < (x : Int) + D.length := fun i hi => ((hf.2 i).1 hi).2
  have hbx : fBare said 64 0 sz x := (hf.2 x).2 ⟨by omega, by omega⟩
  have hn0 : said (0, (sz : Int)) = none := hbx.1
  have hcg : fSays said (claimLeaf D x) 64 0 sz = fSays said (leafAt x (D.map leafH)) 64 0 sz := fSays_congr said _ _ 64 0 sz (fun i hi => by
    obtain ⟨i1, i2⟩ := hb i hi
    obtain ⟨d, hd⟩ : ∃ d, D[(i - x).toNat]? = some d := ⟨_, List.getElem?_eq_getElem (by omega)⟩
    unfold claimLeaf leafAt
    rw [List.getD_eq_getElem?_getD, List.getD_eq_getElem?_getD, List.getElem?_map, hd]; rfl)
  have hroot : fSays said (claimLeaf D x) 64 0 sz = treeB L 0 sz := by
    rw [hcg, hf.1]
    have := hv.2
    unfold rootB at this
    rw [List.length_map] at this
    exact this
  rw [hsd]
  cases q : fWalk said (claimLeaf D x) L (logText L) (claimText D x) 64 0 sz with
  | some r =>
    have ht := fWalk_two said (claimLeaf D x) L (logText L) (claimText D x) (leafG_text L) (claim_text D x) hs32 64 0 sz (by omega) h64 (by omega) hn0 hroot r q
    have hl := fWalk_len said (claimLeaf D x) L (logText L) (claimText D x) 10000000 (by omega) (fun i => by unfold logText; rw [bOf_length]; have := getD_size hL.2 i.toNat; omega) (fun i => by unfold claimText; rw [bOf_length]; exact getD_size hM _) (fun i => leafH_length _) hs32 64 0 sz r q
    exact ⟨r, rfl, ht.1, ht.2, hl.1, hl.2⟩
  | none =>
    exfalso
    have ha := fWalk_none said (claimLeaf D x) L (logText L) (claimText D x) (claim_text D x) hs32 64 0 sz (by omega) h64 (by omega) hroot q
    refine hne (List.ext_getElem? (fun k => ?_))
    by_cases hk : k < D.length
    · have := ha ((x : Int) + k) ((hf.2 _).2 ⟨by omega, by omega⟩)
      unfold logText claimText at this
      have := bOf_inj this
      rw [show ((x : Int) + k).toNat = x + k by omega, show ((x : Int) + k - x).toNat = k by omega, List.getD_eq_getElem?_getD, List.getD_eq_getElem?_getD] at this
      obtain ⟨d, hd⟩ : ∃ d, D[k]? = some d := ⟨_, List.getElem?_eq_getElem hk⟩
      obtain ⟨y, hy⟩ : ∃ y, L[x + k]? = some y := ⟨_, List.getElem?_eq_getElem (by omega)⟩
      rw [hd, hy] at this
      rw [List.getElem?_take_of_lt hk, List.getElem?_drop, hd, hy]
      exact congrArg some this.symm
    · rw [List.getElem?_eq_none (by omega), List.getElem?_eq_none (by rw [List.length_take]; omega)]
end Go.Proofs.YtaekabhcgdjhfaaDoor

/- The law ForgeBatch. Condition: the package-level variables read as listed. -/
namespace Go.Proofs.YtaekabhcgdjhfaaDoor
open Go.ChangeShapes Go.WideShapes Go.ChangeAt Go.RowKit
set_option linter.unusedVariables false
theorem beyond5 (x0 x1 x2 x3 x4 : Nat) (w : World) (hx0 : x0 ≤ 9000000000000000000) (hx1 : x1 ≤ 9000000000000000000) (hx2 : x2 ≤ 9000000000000000000) (hx3 : x3 ≤ 9000000000000000000) (hx4 : x4 ≤ 9000000000000000000) :
    Calls Tryd.prog 7 #[.slice (some ⟨w.heap.size, 0, none⟩) 5 5] (w.alloc (.cells #[.int .i64 (x0 : Nat), .int .i64 (x1 : Nat), .int .i64 (x2 : Nat), .int .i64 (x3 : Nat), .int .i64 (x4 : Nat)] 3)) fun ev w' => ev = .returned (.bool (decide (1048576 < x0 + x1 + x2 + x3 + x4))) ∧ w' = (w.alloc (.cells #[.int .i64 (x0 : Nat), .int .i64 (x1 : Nat), .int .i64 (x2 : Nat), .int .i64 (x3 : Nat), .int .i64 (x4 : Nat)] 3)) := by
  have := beyond_any [x0, x1, x2, x3, x4] w.heap.size 5 5 (w.alloc (.cells #[.int .i64 (x0 : Nat), .int .i64 (x1 : Nat), .int .i64 (x2 : Nat), .int .i64 (x3 : Nat), .int .i64 (x4 : Nat)] 3)) rfl (by simp; omega) (fun j x hj => by
    refine cell_new _ _ _ _ ?_
    match j, hj with
    | 0, hj => simp at hj; subst hj; rfl
    | 1, hj => simp at hj; subst hj; rfl
    | 2, hj => simp at hj; subst hj; rfl
    | 3, hj => simp at hj; subst hj; rfl
    | 4, hj => simp at hj; subst hj; rfl
    | j + 5, hj => simp at hj) (by omega)
  have hs : [x0, x1, x2, x3, x4].sum = x0 + x1 + x2 + x3 + x4 := by simp <;> omega
  rw [hs] at this
  exact this.mono (fun _ _ h => ⟨h.1, h.2.symm⟩)

set_option maxRecDepth 100000 in
set_option maxHeartbeats 4000000 in
theorem fbl_great (a : Nat → Addr) (B : Nat) (D E : List ByteArray) (P : List (List UInt8)) (A : Option Addr) (n c X Z : Nat) (S : Option Addr) (k e : Nat) (G : Option Addr) (m g : Nat) (w : World) (hE : Env B a w) (h : SIn w A n c D) (hX : X < 18446744073709551616) (hZ : Z < 18446744073709551616) (hS : SIn w S k e E) (hp : HIn w G m g P) (hm : m ≤ 9000000000000000000) (hg : 1048576 < n + bulk D + k + bulk E + m) :
    Calls Tryd.prog 5 #[.slice A n c, .int .u64 X, .int .u64 Z, .slice S k e, .slice G m g] w fun ev w' => ev = .returned (.bool true) ∧ Below w.heap.size w w' := by
  have HE := Lib.hid hE
  have HD := Lib.hid h
  have HS := Lib.hid hS
  have HP := Lib.hid hp
  have hn9 : n ≤ 140737488355328 := h.2.2.2.2.1
  have hk9 : k ≤ 140737488355328 := hS.2.2.2.2.1
  have HG := Lib.hid hg
  clear hE h hg hS hp
  go_enter Tryd.func5, Tryd.ntmps5
  go_wp2_with fail
  refine (texts_any D A n c w HD.out).mono ?_
  rintro ev w' ⟨t, rfl, ht9, ht, rfl⟩
  have HT0 := Lib.hid ht
  clear ht
  go_wp2_with fail
  refine (texts_any E S k e w HS.out).mono ?_
  rintro ev w' ⟨u, rfl, hu9, hu, rfl⟩
  have HU0 := Lib.hid hu
  clear hu
  go_wp2_with fail
  refine (beyond5 n t k u m w (by omega) ht9 (by omega) hu9 hm).mono ?_
  rintro ev w1 ⟨rfl, hw1⟩
  have b1 : Below w.heap.size w w1 := by rw [hw1]; exact (Below.refl _ _).alloc (Nat.le_refl _) _
  clear hw1
  have hgd : decide (1048576 < n + t + k + u + m) = true := by have := HT0.out; have := HU0.out; have := HG.out; simp; omega
  rw [hgd]
  go_wp2
  go_ret
  exact ⟨rfl, b1⟩

set_option maxRecDepth 100000 in
set_option maxHeartbeats 16000000 in
theorem fbl_over (a : Nat → Addr) (B : Nat) (D E : List ByteArray) (P : List (List UInt8)) (A : Option Addr) (n c X Z : Nat) (S : Option Addr) (k e : Nat) (G : Option Addr) (m g : Nat) (w : World) (hE : Env B a w) (h : SIn w A n c D) (hX : X < 18446744073709551616) (hZ : Z < 18446744073709551616) (hS : SIn w S k e E) (hp : HIn w G m g P) (hm : m ≤ 9000000000000000000) (hg : n + bulk D + k + bulk E + m ≤ 1048576) (hv : (keptL D).length < Z) :
    Calls Tryd.prog 5 #[.slice A n c, .int .u64 X, .int .u64 Z, .slice S k e, .slice G m g] w fun ev w' => ev = .returned (.bool true) ∧ Below w.heap.size w w' := by
  have HE := Lib.hid hE
  have HD := Lib.hid h
  have HS := Lib.hid hS
  have HP := Lib.hid hp
  have hn9 : n ≤ 140737488355328 := h.2.2.2.2.1
  have hk9 : k ≤ 140737488355328 := hS.2.2.2.2.1
  have HG := Lib.hid hg
  clear hE h hg hS hp
  go_enter Tryd.func5, Tryd.ntmps5
  go_wp2_with fail
  refine (texts_any D A n c w HD.out).mono ?_
  rintro ev w' ⟨t, rfl, ht9, ht, rfl⟩
  have HT0 := Lib.hid ht
  clear ht
  go_wp2_with fail
  refine (texts_any E S k e w HS.out).mono ?_
  rintro ev w' ⟨u, rfl, hu9, hu, rfl⟩
  have HU0 := Lib.hid hu
  clear hu
  go_wp2_with fail
  refine (beyond5 n t k u m w (by omega) ht9 (by omega) hu9 hm).mono ?_
  rintro ev w1 ⟨rfl, hw1⟩
  have b1 : Below w.heap.size w w1 := by rw [hw1]; exact (Below.refl _ _).alloc (Nat.le_refl _) _
  clear hw1
  have hgd : decide (1048576 < n + t + k + u + m) = false := by have := HT0.out; have := HU0.out; have := HG.out; simp; omega
  have hn10 : n ≤ 1048576 := by have := HG.out; omega
  rw [hgd]
  go_wp2_with fail
  refine (logs20_any a B D A n c w1 (HE.out.step b1) (HD.out.below b1) hn10).mono ?_
  rintro ev w2 ⟨b, v, b2, rfl, hL2, bb⟩
  have HL2 := Lib.hid hL2
  have HB2 : Hid (Below w.heap.size w w2) := Lib.hid (b1.trans (bb.mono b1.size))
  have HE2 := Lib.hid (HE.out.step HB2.out)
  have HS2 := Lib.hid (HS.out.below HB2.out)
  have HP2 := Lib.hid (HP.out.below HB2.out)
  have HCw2 : Hid (Below w2.heap.size w2 w2) := Lib.hid (Below.refl _ _)
  have HKN : Hid (E.length = k ∧ k ≤ 1000000000) := Lib.hid ⟨HS.out.1, by have := HG.out; omega⟩
  have hLK : (keptL D).length ≤ n := by have := keptL_len D D.length; rw [List.take_length] at this; rw [← HD.out.1]; exact this
  have HSZ : Hid (∀ s ∈ E, s.size ≤ 1048576) := Lib.hid (fun s hs => by have := bulk_size hs; have := HG.out; omega)
  have hN9 : (keptL D).length ≤ 1048576 := hL2.1.1
  clear hL2 b1 bb
  obtain ⟨L, hL⟩ : ∃ L, keptL D = L := ⟨_, rfl⟩
  rw [hL] at HL2 hv hN9 hLK  
  obtain ⟨base, hbase⟩ : ∃ z, w1.heap.size = z := ⟨_, rfl⟩
  rw [hbase] at HL2
  have HN9 : Hid (L.length ≤ 1048576 ∧ k ≤ 1000000) := Lib.hid ⟨hN9, by have := HG.out; have := bulk_len E; have := HS.out.1; omega⟩
  have HLV := Lib.hid (lives20_any a B)
  obtain ⟨vr, evr, Hvr, Zvr, Ivr, Ovr⟩ := row_of zeroH zeroH_length
  have HROOT : Hid (∀ w, Env B a w → LogAt base b v L w → Calls Tryd.prog 11 #[.pointer (some ⟨b, 0, none⟩), .int .u64 Z] w fun ev w' => ev = .returned (.tuple #[.agg vr, .iface 169 (.pointer (some (a 5)))]) ∧ Below w.heap.size w w') := Lib.hid (fun w e q => by
    have := lroot_over a B base b v L Z w e q (by omega) (by omega)
    rw [evr] at this; exact this)
  have HFB : Hid (Calls Tryd.prog 20 #[.pointer (some ⟨b, 0, none⟩), .int .u64 X, .int .u64 Z, .slice S k e, .slice G m g] w2 fun ev w' => ev = .returned (.tuple #[.string ⟨#[]⟩, .string ⟨#[]⟩, .bool false]) ∧ Below w2.heap.size w2 w') := Lib.hid (fbat_none (.pointer (some ⟨b, 0, none⟩)) X Z S k e G m g w2 (a 5) (lroot_over a B base b v L Z w2 HE2.out HL2.out (by omega) (by omega)))
  clear hL hbase evr hv hN9 hLK hX
  obtain ⟨i0, hii, hz0, hz1, hz2⟩ := info_parts info_hash
  have HM : Hid (∀ k : Nat, (E.map leafH).take (k + 1) = (E.map leafH).take k ++ ((E[k]?).map leafH).toList) := Lib.hid (fun k => by rw [List.take_add_one, List.getElem?_map])
  have HHL : Hid ((E.map leafH).length = k) := Lib.hid (by rw [List.length_map]; exact HKN.out.1)
  have HH32 := Lib.hid (leafH_32 E)
  obtain ⟨H, hH⟩ : ∃ H, E.map leafH = H := ⟨_, rfl⟩
  rw [hH] at HM HHL HH32
  clear hH
  go_wp2_with fail
  refine HFB.out.mono ?_
  rintro ev w3 ⟨rfl, bb⟩
  have HCw3 : Hid (Below w2.heap.size w2 w3) := Lib.hid (HCw2.out.trans (bb.mono HCw2.out.size))
  have Sw3 : Hid (Below w2.heap.size w2 w3) := Lib.hid bb
  clear bb
  go_wp2_with fail
  go_loopw [17, 18] (fun o i wr => ∃ j Aq cq, j ≤ k ∧ i = .int .i64 (j : Nat) ∧ o = .slice Aq j cq ∧ j ≤ cq ∧ Hid (wr.ownsRow w3.heap.size 34 32 (.slice Aq j cq) j (hashCells (H.take j))) ∧ Hid (Gr w3 wr)) (fun _ i _ => k - (intOf i).toNat)
  case atStart => exact ⟨0, none, 0, Nat.zero_le _, rfl, rfl, Nat.le_refl _, Lib.hid (by simpa [hashCells] using World.ownsRow_nil _ _ _ _), Lib.hid (Gr.refl _)⟩
  case round =>
    obtain ⟨j, Aq, cq, hj, rfl, rfl, hjc, HO, HG3⟩ := hrel
    have HCwr : Hid (Below w2.heap.size w2 wr) := Lib.hid (HCw3.out.trans (HG3.out.mono HCw3.out.size))
    by_cases hlt : j < k
    · obtain ⟨d, hd⟩ : ∃ s, E[j]? = some s := ⟨_, List.getElem?_eq_getElem (by have := HKN.out; omega)⟩
      obtain ⟨gs, os, rfl, hc0, hgs, hsz⟩ := HS2.out.at hd
      have hc := cell_below HCwr.out hc0 hgs
      have hd6 := HSZ.out d (List.mem_of_getElem? hd)
      obtain ⟨vy, evy, Hvy, Zvy, Ivy, Ovy⟩ := row_of (leafH d) (leafH_length _)
      have HX := Lib.hid (And.intro (leafH_length d) Hvy.out)
      have HLF : Hid (∀ w, Env B a w → Calls Tryd.prog 13 #[.string d] w fun ev w' => ev = .returned (.agg vy) ∧ Below w.heap.size w w') := Lib.hid (fun w e => by
        have := hleaf_any d w (by omega) e.tab
        rw [evy] at this; exact this)
      have HTK : Hid (H.take (j + 1) = H.take j ++ [leafH d]) := Lib.hid (by rw [HM.out, hd]; rfl)
      obtain ⟨outk, houtk⟩ : ∃ o, H.take j = o := ⟨_, rfl⟩
      rw [houtk] at HO HTK
      have i0' : (0 : Int) ≤ j := by omega
      have i1 : (j : Int) < k := by omega
      have hk2 : k ≤ 1000000000 := HKN.out.2
      clear hd hc0 evy houtk hgs
      go_wp2_with fail
      refine (HLF.out wr (HE2.out.step HCwr.out)).mono ?_
      rintro ev w4 ⟨rfl, b4⟩
      have HG4 : Hid (Gr w3 w4) := Lib.hid (show Below w3.heap.size w3 w4 from HG3.out.trans (b4.mono HG3.out.size))
      have HO2 : Hid ((w4.alloc (.cells vy 34)).ownsRow w3.heap.size 34 32 (.slice Aq j cq) j (hashCells outk)) := Lib.hid (own_below (own_below HO.out b4 (Nat.le_refl _)) ((Below.refl _ _).alloc (Nat.le_refl _) _) (Nat.le_refl _))
      clear b4
      go_wp2_with (first
        | (refine wpList_buildSlice_row rfl 24 34 _ vy _ 32 rfl rfl Tryd.underlying24 Tryd.sizeOf34 Tryd.zeroValue34 rfl Zvy.out (by omega) (by omega) ?_)
        | (at_builtin; go_loud (refine wpList_append_list rfl _ _ 24 rfl w3.heap.size w4.heap.size 34 i0 _ 32 32 Tryd.underlying24 hii hz0 hz1 hz2 rfl (by omega) (.slice Aq j cq) _ j 1 (hashCells outk) (hashCells [leafH d]) rfl rfl (HO2.out) (own_one w4 w4.heap.size vy (leafH d) HX.out.1 HX.out.2 (Nat.le_refl _)) (hashCells_cell _) (by unfold maxLen; omega) (by omega) (by simp; have := (show Below w3.heap.size w3 w4 from HG4.out).size; omega) ?_); intro v' w9 hown hgrow hblk; obtain ⟨A9, c9, rfl, hc9⟩ := own_shape hown; have HN9x := Lib.hid (And.intro hown (And.intro hgrow hblk)); clear hown hgrow hblk))
      have HG9 : Hid (Gr w3 w9) := Lib.hid ((((Below.refl _ w4).alloc (Nat.le_refl _) _).mono (Below.size HG4.out) |> (show Below w3.heap.size w3 w4 from HG4.out).trans).grown HN9x.out.2.1 (by simp; have := (show Below w3.heap.size w3 w4 from HG4.out).size; omega) (fun q hq => (HO2.out.lt q hq).1))
      go_roundw
      case rel => exact ⟨j + 1, A9, c9, by omega, by go_num, rfl, hc9, Lib.hid (own_congr HN9x.out.1 rfl (by rw [HTK.out, hashCells_append])), HG9⟩
      case measure => simp [intOf]; omega
    · obtain rfl : k = j := by omega
      have HT1 : Hid (H.take k = H) := Lib.hid (List.take_of_length_le (by rw [HHL.out]; exact Nat.le_refl _))
      rw [HT1.out] at HO
      have HI1 : Hid (HIn wr Aq k cq H) := Lib.hid (own_hin HO.out HH32.out HHL.out)
      go_wp2_with fail
      refine (HROOT.out wr (HE2.out.step HCwr.out) (HL2.out.below HCwr.out)).mono ?_
      rintro ev w4 ⟨rfl, bb⟩
      have HCw4 : Hid (Below w2.heap.size w2 w4) := Lib.hid (HCwr.out.trans (bb.mono HCwr.out.size))
      have Sw4 : Hid (Below wr.heap.size wr w4) := Lib.hid bb
      clear bb
      go_upto_region 13 with (refine wpList_store_row_any rfl 34 _ _ rfl w4.heap.size vr rfl rfl 34 _ (heap_at _ _ _ rfl) Ivr.out (by rw [Zvr.out]; rfl) Ovr.out ?_; intro w5 hbN hgN hsN; have bs : Below w4.heap.size w4 w5 := ((Below.refl _ w4).alloc (Nat.le_refl _) _).trans (hbN.to_below (by simp) (fun k hk q => by omega)); have Rw5 := Lib.hid hgN; clear hbN hgN hsN)
      have HCw5 : Hid (Below w2.heap.size w2 w5) := Lib.hid (HCw4.out.trans (bs.mono HCw4.out.size))
      have Sw5 : Hid (Below w4.heap.size w4 w5) := Lib.hid bs
      clear bs
      go_wp2_with fail
      refine (two_none w5).mono ?_
      rintro ev w8 ⟨rfl, bb⟩
      have HCw8 : Hid (Below w2.heap.size w2 w8) := Lib.hid (HCw5.out.trans (bb.mono HCw5.out.size))
      have Sw8 : Hid (Below w5.heap.size w5 w8) := Lib.hid bb
      clear bb
      go_wp2_with fail
      refine (HLV.out w8 (HE2.out.step HCw8.out)).mono ?_
      rintro ev w' ⟨rfl, bb⟩
      go_wp2
      go_ret
      exact ⟨rfl, HB2.out.trans ((HCw8.out.trans (bb.mono HCw8.out.size)).mono HB2.out.size)⟩

set_option maxRecDepth 100000 in
set_option maxHeartbeats 16000000 in
theorem fbl_bad (a : Nat → Addr) (B : Nat) (D E : List ByteArray) (P : List (List UInt8)) (A : Option Addr) (n c X Z : Nat) (S : Option Addr) (k e : Nat) (G : Option Addr) (m g : Nat) (w : World) (hE : Env B a w) (h : SIn w A n c D) (hX : X < 18446744073709551616) (hZ : Z < 18446744073709551616) (hS : SIn w S k e E) (hp : HIn w G m g P) (hm : m ≤ 9000000000000000000) (hg : n + bulk D + k + bulk E + m ≤ 1048576) (hz : Z ≤ (keptL D).length) (hv : ¬ verB X Z (keptL D) E P) :
    Calls Tryd.prog 5 #[.slice A n c, .int .u64 X, .int .u64 Z, .slice S k e, .slice G m g] w fun ev w' => ev = .returned (.bool true) ∧ Below w.heap.size w w' := by
  have HE := Lib.hid hE
  have HD := Lib.hid h
  have HS := Lib.hid hS
  have HP := Lib.hid hp
  have hn9 : n ≤ 140737488355328 := h.2.2.2.2.1
  have hk9 : k ≤ 140737488355328 := hS.2.2.2.2.1
  have HG := Lib.hid hg
  clear hE h hg hS hp
  go_enter Tryd.func5, Tryd.ntmps5
  go_wp2_with fail
  refine (texts_any D A n c w HD.out).mono ?_
  rintro ev w' ⟨t, rfl, ht9, ht, rfl⟩
  have HT0 := Lib.hid ht
  clear ht
  go_wp2_with fail
  refine (texts_any E S k e w HS.out).mono ?_
  rintro ev w' ⟨u, rfl, hu9, hu, rfl⟩
  have HU0 := Lib.hid hu
  clear hu
  go_wp2_with fail
  refine (beyond5 n t k u m w (by omega) ht9 (by omega) hu9 hm).mono ?_
  rintro ev w1 ⟨rfl, hw1⟩
  have b1 : Below w.heap.size w w1 := by rw [hw1]; exact (Below.refl _ _).alloc (Nat.le_refl _) _
  clear hw1
  have hgd : decide (1048576 < n + t + k + u + m) = false := by have := HT0.out; have := HU0.out; have := HG.out; simp; omega
  have hn10 : n ≤ 1048576 := by have := HG.out; omega
  rw [hgd]
  go_wp2_with fail
  refine (logs20_any a B D A n c w1 (HE.out.step b1) (HD.out.below b1) hn10).mono ?_
  rintro ev w2 ⟨b, v, b2, rfl, hL2, bb⟩
  have HL2 := Lib.hid hL2
  have HB2 : Hid (Below w.heap.size w w2) := Lib.hid (b1.trans (bb.mono b1.size))
  have HE2 := Lib.hid (HE.out.step HB2.out)
  have HS2 := Lib.hid (HS.out.below HB2.out)
  have HP2 := Lib.hid (HP.out.below HB2.out)
  have HCw2 : Hid (Below w2.heap.size w2 w2) := Lib.hid (Below.refl _ _)
  have HKN : Hid (E.length = k ∧ k ≤ 1000000000) := Lib.hid ⟨HS.out.1, by have := HG.out; omega⟩
  have hLK : (keptL D).length ≤ n := by have := keptL_len D D.length; rw [List.take_length] at this; rw [← HD.out.1]; exact this
  have HSZ : Hid (∀ s ∈ E, s.size ≤ 1048576) := Lib.hid (fun s hs => by have := bulk_size hs; have := HG.out; omega)
  have hN9 : (keptL D).length ≤ 1048576 := hL2.1.1
  clear hL2 b1 bb
  obtain ⟨L, hL⟩ : ∃ L, keptL D = L := ⟨_, rfl⟩
  rw [hL] at HL2 hv hN9 hLK hz 
  obtain ⟨base, hbase⟩ : ∃ z, w1.heap.size = z := ⟨_, rfl⟩
  rw [hbase] at HL2
  have HN9 : Hid (L.length ≤ 1048576 ∧ k ≤ 1000000) := Lib.hid ⟨hN9, by have := HG.out; have := bulk_len E; have := HS.out.1; omega⟩
  have HLV := Lib.hid (lives20_any a B)
  obtain ⟨vr, evr, Hvr, Zvr, Ivr, Ovr⟩ := row_of (treeB L 0 Z) (treeB_len _ _ _)
  have HROOT : Hid (∀ w, Env B a w → LogAt base b v L w → Calls Tryd.prog 11 #[.pointer (some ⟨b, 0, none⟩), .int .u64 Z] w fun ev w' => ev = .returned (.tuple #[.agg vr, .nilIface]) ∧ Below w.heap.size w w') := Lib.hid (fun w e q => by
    have := lroot_ok a B base b v L Z w e q (by omega) (by omega)
    rw [evr] at this; exact this)
  have HFB : Hid (Calls Tryd.prog 20 #[.pointer (some ⟨b, 0, none⟩), .int .u64 X, .int .u64 Z, .slice S k e, .slice G m g] w2 fun ev w' => ev = .returned (.tuple #[.string ⟨#[]⟩, .string ⟨#[]⟩, .bool false]) ∧ Below w2.heap.size w2 w') := Lib.hid (fbat_bad a B base b v L E P X k Z S e G m g w2 HE2.out HL2.out hX hz HS2.out (by have := HN9.out; omega) (fun s hs => by have := HSZ.out s hs; omega) HP2.out hv)
  obtain ⟨qe, HVE⟩ : ∃ qe, (if batchK X Z E.length P.length ≠ 0 then errV a (batchK X Z E.length P.length) else if rootB X Z (E.map leafH) P = treeB L 0 Z then .nilIface else errV a 10) = .iface 169 (.pointer (some qe)) := by
    by_cases hk : batchK X Z E.length P.length ≠ 0
    · rw [if_pos hk]; exact ⟨_, rfl⟩
    · rw [if_neg hk]
      by_cases hr : rootB X Z (E.map leafH) P = treeB L 0 Z
      · exact absurd ⟨by simpa using hk, hr⟩ hv
      · rw [if_neg hr]; exact ⟨_, rfl⟩
  have HVF : Hid (∀ (F : Option Addr) (k' : Nat) w, Env B a w → HIn w F k k' (E.map leafH) → HIn w G m g P → Calls Tryd.prog 21 #[.int .u64 X, .int .u64 Z, .slice F k k', .slice G m g, .agg vr] w fun ev w' => ev = .returned (.iface 169 (.pointer (some qe))) ∧ Below w.heap.size w w') := Lib.hid (fun F k' w e q1 q2 => by
    have := fver_any a B X Z L E P G F k m g k' w e hX (by omega) q1 q2
    rw [HVE, evr] at this; exact this)
  have HZL := Lib.hid hz
  clear hL hbase evr hv HVE hz hN9 hLK hX
  obtain ⟨i0, hii, hz0, hz1, hz2⟩ := info_parts info_hash
  have HM : Hid (∀ k : Nat, (E.map leafH).take (k + 1) = (E.map leafH).take k ++ ((E[k]?).map leafH).toList) := Lib.hid (fun k => by rw [List.take_add_one, List.getElem?_map])
  have HHL : Hid ((E.map leafH).length = k) := Lib.hid (by rw [List.length_map]; exact HKN.out.1)
  have HH32 := Lib.hid (leafH_32 E)
  obtain ⟨H, hH⟩ : ∃ H, E.map leafH = H := ⟨_, rfl⟩
  rw [hH] at HVF HM HHL HH32
  clear hH
  go_wp2_with fail
  refine HFB.out.mono ?_
  rintro ev w3 ⟨rfl, bb⟩
  have HCw3 : Hid (Below w2.heap.size w2 w3) := Lib.hid (HCw2.out.trans (bb.mono HCw2.out.size))
  have Sw3 : Hid (Below w2.heap.size w2 w3) := Lib.hid bb
  clear bb
  go_wp2_with fail
  go_loopw [17, 18] (fun o i wr => ∃ j Aq cq, j ≤ k ∧ i = .int .i64 (j : Nat) ∧ o = .slice Aq j cq ∧ j ≤ cq ∧ Hid (wr.ownsRow w3.heap.size 34 32 (.slice Aq j cq) j (hashCells (H.take j))) ∧ Hid (Gr w3 wr)) (fun _ i _ => k - (intOf i).toNat)
  case atStart => exact ⟨0, none, 0, Nat.zero_le _, rfl, rfl, Nat.le_refl _, Lib.hid (by simpa [hashCells] using World.ownsRow_nil _ _ _ _), Lib.hid (Gr.refl _)⟩
  case round =>
    obtain ⟨j, Aq, cq, hj, rfl, rfl, hjc, HO, HG3⟩ := hrel
    have HCwr : Hid (Below w2.heap.size w2 wr) := Lib.hid (HCw3.out.trans (HG3.out.mono HCw3.out.size))
    by_cases hlt : j < k
    · obtain ⟨d, hd⟩ : ∃ s, E[j]? = some s := ⟨_, List.getElem?_eq_getElem (by have := HKN.out; omega)⟩
      obtain ⟨gs, os, rfl, hc0, hgs, hsz⟩ := HS2.out.at hd
      have hc := cell_below HCwr.out hc0 hgs
      have hd6 := HSZ.out d (List.mem_of_getElem? hd)
      obtain ⟨vy, evy, Hvy, Zvy, Ivy, Ovy⟩ := row_of (leafH d) (leafH_length _)
      have HX := Lib.hid (And.intro (leafH_length d) Hvy.out)
      have HLF : Hid (∀ w, Env B a w → Calls Tryd.prog 13 #[.string d] w fun ev w' => ev = .returned (.agg vy) ∧ Below w.heap.size w w') := Lib.hid (fun w e => by
        have := hleaf_any d w (by omega) e.tab
        rw [evy] at this; exact this)
      have HTK : Hid (H.take (j + 1) = H.take j ++ [leafH d]) := Lib.hid (by rw [HM.out, hd]; rfl)
      obtain ⟨outk, houtk⟩ : ∃ o, H.take j = o := ⟨_, rfl⟩
      rw [houtk] at HO HTK
      have i0' : (0 : Int) ≤ j := by omega
      have i1 : (j : Int) < k := by omega
      have hk2 : k ≤ 1000000000 := HKN.out.2
      clear hd hc0 evy houtk hgs
      go_wp2_with fail
      refine (HLF.out wr (HE2.out.step HCwr.out)).mono ?_
      rintro ev w4 ⟨rfl, b4⟩
      have HG4 : Hid (Gr w3 w4) := Lib.hid (show Below w3.heap.size w3 w4 from HG3.out.trans (b4.mono HG3.out.size))
      have HO2 : Hid ((w4.alloc (.cells vy 34)).ownsRow w3.heap.size 34 32 (.slice Aq j cq) j (hashCells outk)) := Lib.hid (own_below (own_below HO.out b4 (Nat.le_refl _)) ((Below.refl _ _).alloc (Nat.le_refl _) _) (Nat.le_refl _))
      clear b4
      go_wp2_with (first
        | (refine wpList_buildSlice_row rfl 24 34 _ vy _ 32 rfl rfl Tryd.underlying24 Tryd.sizeOf34 Tryd.zeroValue34 rfl Zvy.out (by omega) (by omega) ?_)
        | (at_builtin; go_loud (refine wpList_append_list rfl _ _ 24 rfl w3.heap.size w4.heap.size 34 i0 _ 32 32 Tryd.underlying24 hii hz0 hz1 hz2 rfl (by omega) (.slice Aq j cq) _ j 1 (hashCells outk) (hashCells [leafH d]) rfl rfl (HO2.out) (own_one w4 w4.heap.size vy (leafH d) HX.out.1 HX.out.2 (Nat.le_refl _)) (hashCells_cell _) (by unfold maxLen; omega) (by omega) (by simp; have := (show Below w3.heap.size w3 w4 from HG4.out).size; omega) ?_); intro v' w9 hown hgrow hblk; obtain ⟨A9, c9, rfl, hc9⟩ := own_shape hown; have HN9x := Lib.hid (And.intro hown (And.intro hgrow hblk)); clear hown hgrow hblk))
      have HG9 : Hid (Gr w3 w9) := Lib.hid ((((Below.refl _ w4).alloc (Nat.le_refl _) _).mono (Below.size HG4.out) |> (show Below w3.heap.size w3 w4 from HG4.out).trans).grown HN9x.out.2.1 (by simp; have := (show Below w3.heap.size w3 w4 from HG4.out).size; omega) (fun q hq => (HO2.out.lt q hq).1))
      go_roundw
      case rel => exact ⟨j + 1, A9, c9, by omega, by go_num, rfl, hc9, Lib.hid (own_congr HN9x.out.1 rfl (by rw [HTK.out, hashCells_append])), HG9⟩
      case measure => simp [intOf]; omega
    · obtain rfl : k = j := by omega
      have HT1 : Hid (H.take k = H) := Lib.hid (List.take_of_length_le (by rw [HHL.out]; exact Nat.le_refl _))
      rw [HT1.out] at HO
      have HI1 : Hid (HIn wr Aq k cq H) := Lib.hid (own_hin HO.out HH32.out HHL.out)
      go_wp2_with fail
      refine (HROOT.out wr (HE2.out.step HCwr.out) (HL2.out.below HCwr.out)).mono ?_
      rintro ev w4 ⟨rfl, bb⟩
      have HCw4 : Hid (Below w2.heap.size w2 w4) := Lib.hid (HCwr.out.trans (bb.mono HCwr.out.size))
      have Sw4 : Hid (Below wr.heap.size wr w4) := Lib.hid bb
      clear bb
      go_upto_region 13 with (refine wpList_store_row_any rfl 34 _ _ rfl w4.heap.size vr rfl rfl 34 _ (heap_at _ _ _ rfl) Ivr.out (by rw [Zvr.out]; rfl) Ovr.out ?_; intro w5 hbN hgN hsN; have bs : Below w4.heap.size w4 w5 := ((Below.refl _ w4).alloc (Nat.le_refl _) _).trans (hbN.to_below (by simp) (fun k hk q => by omega)); have Rw5 := Lib.hid hgN; clear hbN hgN hsN)
      have HCw5 : Hid (Below w2.heap.size w2 w5) := Lib.hid (HCw4.out.trans (bs.mono HCw4.out.size))
      have Sw5 : Hid (Below w4.heap.size w4 w5) := Lib.hid bs
      clear bs
      have HI5 : Hid (HIn w5 Aq k cq H) := Lib.hid (HI1.out.below (Sw4.out.trans (Sw5.out.mono Sw4.out.size)))
      go_wp2_with (refine wpList_load_row_g rfl 34 _ rfl w4.heap.size rfl 34 vr (0, 0) _ Rw5.out Tryd.underlying34 rfl Ivr.out ?_)
      refine (HVF.out Aq cq w5 (HE2.out.step HCw5.out) HI5.out (HP2.out.below HCw5.out)).mono ?_
      rintro ev w6 ⟨rfl, bb⟩
      have HCw6 : Hid (Below w2.heap.size w2 w6) := Lib.hid (HCw5.out.trans (bb.mono HCw5.out.size))
      have Sw6 : Hid (Below w5.heap.size w5 w6) := Lib.hid bb
      clear bb
      go_wp2_with fail
      refine (two_none w6).mono ?_
      rintro ev w8 ⟨rfl, bb⟩
      have HCw8 : Hid (Below w2.heap.size w2 w8) := Lib.hid (HCw6.out.trans (bb.mono HCw6.out.size))
      have Sw8 : Hid (Below w6.heap.size w6 w8) := Lib.hid bb
      clear bb
      go_wp2_with fail
      refine (HLV.out w8 (HE2.out.step HCw8.out)).mono ?_
      rintro ev w' ⟨rfl, bb⟩
      go_wp2
      go_ret
      exact ⟨rfl, HB2.out.trans ((HCw8.out.trans (bb.mono HCw8.out.size)).mono HB2.out.size)⟩

set_option maxRecDepth 100000 in
set_option maxHeartbeats 16000000 in
theorem fbl_same (a : Nat → Addr) (B : Nat) (D E : List ByteArray) (P : List (List UInt8)) (A : Option Addr) (n c X Z : Nat) (S : Option Addr) (k e : Nat) (G : Option Addr) (m g : Nat) (w : World) (hE : Env B a w) (h : SIn w A n c D) (hX : X < 18446744073709551616) (hZ : Z < 18446744073709551616) (hS : SIn w S k e E) (hp : HIn w G m g P) (hm : m ≤ 9000000000000000000) (hg : n + bulk D + k + bulk E + m ≤ 1048576) (hz : Z ≤ (keptL D).length) (hv : verB X Z (keptL D) E P) (hsm : E = ((keptL D).drop X).take k) :
    Calls Tryd.prog 5 #[.slice A n c, .int .u64 X, .int .u64 Z, .slice S k e, .slice G m g] w fun ev w' => ev = .returned (.bool true) ∧ Below w.heap.size w w' := by
  have HE := Lib.hid hE
  have HD := Lib.hid h
  have HS := Lib.hid hS
  have HP := Lib.hid hp
  have hn9 : n ≤ 140737488355328 := h.2.2.2.2.1
  have hk9 : k ≤ 140737488355328 := hS.2.2.2.2.1
  have HG := Lib.hid hg
  clear hE h hg hS hp
  go_enter Tryd.func5, Tryd.ntmps5
  go_wp2_with fail
  refine (texts_any D A n c w HD.out).mono ?_
  rintro ev w' ⟨t, rfl, ht9, ht, rfl⟩
  have HT0 := Lib.hid ht
  clear ht
  go_wp2_with fail
  refine (texts_any E S k e w HS.out).mono ?_
  rintro ev w' ⟨u, rfl, hu9, hu, rfl⟩
  have HU0 := Lib.hid hu
  clear hu
  go_wp2_with fail
  refine (beyond5 n t k u m w (by omega) ht9 (by omega) hu9 hm).mono ?_
  rintro ev w1 ⟨rfl, hw1⟩
  have b1 : Below w.heap.size w w1 := by rw [hw1]; exact (Below.refl _ _).alloc (Nat.le_refl _) _
  clear hw1
  have hgd : decide (1048576 < n + t + k + u + m) = false := by have := HT0.out; have := HU0.out; have := HG.out; simp; omega
  have hn10 : n ≤ 1048576 := by have := HG.out; omega
  rw [hgd]
  go_wp2_with fail
  refine (logs20_any a B D A n c w1 (HE.out.step b1) (HD.out.below b1) hn10).mono ?_
  rintro ev w2 ⟨b, v, b2, rfl, hL2, bb⟩
  have HL2 := Lib.hid hL2
  have HB2 : Hid (Below w.heap.size w w2) := Lib.hid (b1.trans (bb.mono b1.size))
  have HE2 := Lib.hid (HE.out.step HB2.out)
  have HS2 := Lib.hid (HS.out.below HB2.out)
  have HP2 := Lib.hid (HP.out.below HB2.out)
  have HCw2 : Hid (Below w2.heap.size w2 w2) := Lib.hid (Below.refl _ _)
  have HKN : Hid (E.length = k ∧ k ≤ 1000000000) := Lib.hid ⟨HS.out.1, by have := HG.out; omega⟩
  have hLK : (keptL D).length ≤ n := by have := keptL_len D D.length; rw [List.take_length] at this; rw [← HD.out.1]; exact this
  have HSZ : Hid (∀ s ∈ E, s.size ≤ 1048576) := Lib.hid (fun s hs => by have := bulk_size hs; have := HG.out; omega)
  have hN9 : (keptL D).length ≤ 1048576 := hL2.1.1
  clear hL2 b1 bb
  obtain ⟨L, hL⟩ : ∃ L, keptL D = L := ⟨_, rfl⟩
  rw [hL] at HL2 hv hN9 hLK hz hsm
  obtain ⟨base, hbase⟩ : ∃ z, w1.heap.size = z := ⟨_, rfl⟩
  rw [hbase] at HL2
  have HN9 : Hid (L.length ≤ 1048576 ∧ k ≤ 1000000) := Lib.hid ⟨hN9, by have := HG.out; have := bulk_len E; have := HS.out.1; omega⟩
  have HLV := Lib.hid (lives20_any a B)
  obtain ⟨vr, evr, Hvr, Zvr, Ivr, Ovr⟩ := row_of (treeB L 0 Z) (treeB_len _ _ _)
  have HROOT : Hid (∀ w, Env B a w → LogAt base b v L w → Calls Tryd.prog 11 #[.pointer (some ⟨b, 0, none⟩), .int .u64 Z] w fun ev w' => ev = .returned (.tuple #[.agg vr, .nilIface]) ∧ Below w.heap.size w w') := Lib.hid (fun w e q => by
    have := lroot_ok a B base b v L Z w e q (by omega) (by omega)
    rw [evr] at this; exact this)
  have HFB : Hid (Calls Tryd.prog 20 #[.pointer (some ⟨b, 0, none⟩), .int .u64 X, .int .u64 Z, .slice S k e, .slice G m g] w2 fun ev w' => (∃ s, ev = .returned (.tuple #[.string s, .string s, .bool false]) ∧ bOf s = soB L Z) ∧ Below w2.heap.size w2 w') := Lib.hid (fbat_same a B base b v L E P X k Z S e G m g w2 HE2.out HL2.out hX hz HS2.out (by have := HN9.out; omega) (fun s hs => by have := HSZ.out s hs; omega) HP2.out hv hsm)
  have HVE : (if batchK X Z E.length P.length ≠ 0 then errV a (batchK X Z E.length P.length) else if rootB X Z (E.map leafH) P = treeB L 0 Z then .nilIface else errV a 10) = .nilIface := by
    rw [if_neg (by simp [hv.1]), if_pos hv.2]
  have HVO := Lib.hid (verB_of hv)
  have HSM : Hid (decide (E = (L.drop X).take k) = true) := Lib.hid (by simp [hsm])
  have HVF : Hid (∀ (F : Option Addr) (k' : Nat) w, Env B a w → HIn w F k k' (E.map leafH) → HIn w G m g P → Calls Tryd.prog 21 #[.int .u64 X, .int .u64 Z, .slice F k k', .slice G m g, .agg vr] w fun ev w' => ev = .returned .nilIface ∧ Below w.heap.size w w') := Lib.hid (fun F k' w e q1 q2 => by
    have := fver_any a B X Z L E P G F k m g k' w e hX (by omega) q1 q2
    rw [HVE, evr] at this; exact this)
  have HZL := Lib.hid hz
  have HLOK := Lib.hid (show LogOk L from HL2.out.1)
  have HRIGHT : Hid (∀ (s : ByteArray) (w : World), bOf s = soB L Z → Env B a w → Calls Tryd.prog 17 #[.string s, .string s, .bool false, .bool true, .agg vr] w fun ev w' => ev = .returned (.bool true) ∧ Below w.heap.size w w') := Lib.hid (fun s w hs e => by
    have z0 : 0 < Z := by have := HVO.out; omega
    have := right_any a B s (treeB L 0 Z) w e (by have := soB_len z0 HZL.out HLOK.out; rw [← hs, bOf_length] at this; omega) (treeB_len _ _ _) (by rw [hs]; exact soB_sha z0 HZL.out HLOK.out.1)
    rw [evr] at this; exact this)
  clear hL hbase evr hv HVE hz hsm hN9 hLK hX
  obtain ⟨i0, hii, hz0, hz1, hz2⟩ := info_parts info_hash
  have HM : Hid (∀ k : Nat, (E.map leafH).take (k + 1) = (E.map leafH).take k ++ ((E[k]?).map leafH).toList) := Lib.hid (fun k => by rw [List.take_add_one, List.getElem?_map])
  have HHL : Hid ((E.map leafH).length = k) := Lib.hid (by rw [List.length_map]; exact HKN.out.1)
  have HH32 := Lib.hid (leafH_32 E)
  obtain ⟨H, hH⟩ : ∃ H, E.map leafH = H := ⟨_, rfl⟩
  rw [hH] at HVF HM HHL HH32
  clear hH
  go_wp2_with fail
  refine HFB.out.mono ?_
  rintro ev w3 ⟨⟨s0, rfl, hs0⟩, bb⟩
  have HR := Lib.hid (fun w e => HRIGHT.out s0 w hs0 e)
  clear hs0
  have HCw3 : Hid (Below w2.heap.size w2 w3) := Lib.hid (HCw2.out.trans (bb.mono HCw2.out.size))
  have Sw3 : Hid (Below w2.heap.size w2 w3) := Lib.hid bb
  clear bb
  go_wp2_with fail
  go_loopw [17, 18] (fun o i wr => ∃ j Aq cq, j ≤ k ∧ i = .int .i64 (j : Nat) ∧ o = .slice Aq j cq ∧ j ≤ cq ∧ Hid (wr.ownsRow w3.heap.size 34 32 (.slice Aq j cq) j (hashCells (H.take j))) ∧ Hid (Gr w3 wr)) (fun _ i _ => k - (intOf i).toNat)
  case atStart => exact ⟨0, none, 0, Nat.zero_le _, rfl, rfl, Nat.le_refl _, Lib.hid (by simpa [hashCells] using World.ownsRow_nil _ _ _ _), Lib.hid (Gr.refl _)⟩
  case round =>
    obtain ⟨j, Aq, cq, hj, rfl, rfl, hjc, HO, HG3⟩ := hrel
    have HCwr : Hid (Below w2.heap.size w2 wr) := Lib.hid (HCw3.out.trans (HG3.out.mono HCw3.out.size))
    by_cases hlt : j < k
    · obtain ⟨d, hd⟩ : ∃ s, E[j]? = some s := ⟨_, List.getElem?_eq_getElem (by have := HKN.out; omega)⟩
      obtain ⟨gs, os, rfl, hc0, hgs, hsz⟩ := HS2.out.at hd
      have hc := cell_below HCwr.out hc0 hgs
      have hd6 := HSZ.out d (List.mem_of_getElem? hd)
      obtain ⟨vy, evy, Hvy, Zvy, Ivy, Ovy⟩ := row_of (leafH d) (leafH_length _)
      have HX := Lib.hid (And.intro (leafH_length d) Hvy.out)
      have HLF : Hid (∀ w, Env B a w → Calls Tryd.prog 13 #[.string d] w fun ev w' => ev = .returned (.agg vy) ∧ Below w.heap.size w w') := Lib.hid (fun w e => by
        have := hleaf_any d w (by omega) e.tab
        rw [evy] at this; exact this)
      have HTK : Hid (H.take (j + 1) = H.take j ++ [leafH d]) := Lib.hid (by rw [HM.out, hd]; rfl)
      obtain ⟨outk, houtk⟩ : ∃ o, H.take j = o := ⟨_, rfl⟩
      rw [houtk] at HO HTK
      have i0' : (0 : Int) ≤ j := by omega
      have i1 : (j : Int) < k := by omega
      have hk2 : k ≤ 1000000000 := HKN.out.2
      clear hd hc0 evy houtk hgs
      go_wp2_with fail
      refine (HLF.out wr (HE2.out.step HCwr.out)).mono ?_
      rintro ev w4 ⟨rfl, b4⟩
      have HG4 : Hid (Gr w3 w4) := Lib.hid (show Below w3.heap.size w3 w4 from HG3.out.trans (b4.mono HG3.out.size))
      have HO2 : Hid ((w4.alloc (.cells vy 34)).ownsRow w3.heap.size 34 32 (.slice Aq j cq) j (hashCells outk)) := Lib.hid (own_below (own_below HO.out b4 (Nat.le_refl _)) ((Below.refl _ _).alloc (Nat.le_refl _) _) (Nat.le_refl _))
      clear b4
      go_wp2_with (first
        | (refine wpList_buildSlice_row rfl 24 34 _ vy _ 32 rfl rfl Tryd.underlying24 Tryd.sizeOf34 Tryd.zeroValue34 rfl Zvy.out (by omega) (by omega) ?_)
        | (at_builtin; go_loud (refine wpList_append_list rfl _ _ 24 rfl w3.heap.size w4.heap.size 34 i0 _ 32 32 Tryd.underlying24 hii hz0 hz1 hz2 rfl (by omega) (.slice Aq j cq) _ j 1 (hashCells outk) (hashCells [leafH d]) rfl rfl (HO2.out) (own_one w4 w4.heap.size vy (leafH d) HX.out.1 HX.out.2 (Nat.le_refl _)) (hashCells_cell _) (by unfold maxLen; omega) (by omega) (by simp; have := (show Below w3.heap.size w3 w4 from HG4.out).size; omega) ?_); intro v' w9 hown hgrow hblk; obtain ⟨A9, c9, rfl, hc9⟩ := own_shape hown; have HN9x := Lib.hid (And.intro hown (And.intro hgrow hblk)); clear hown hgrow hblk))
      have HG9 : Hid (Gr w3 w9) := Lib.hid ((((Below.refl _ w4).alloc (Nat.le_refl _) _).mono (Below.size HG4.out) |> (show Below w3.heap.size w3 w4 from HG4.out).trans).grown HN9x.out.2.1 (by simp; have := (show Below w3.heap.size w3 w4 from HG4.out).size; omega) (fun q hq => (HO2.out.lt q hq).1))
      go_roundw
      case rel => exact ⟨j + 1, A9, c9, by omega, by go_num, rfl, hc9, Lib.hid (own_congr HN9x.out.1 rfl (by rw [HTK.out, hashCells_append])), HG9⟩
      case measure => simp [intOf]; omega
    · obtain rfl : k = j := by omega
      have HT1 : Hid (H.take k = H) := Lib.hid (List.take_of_length_le (by rw [HHL.out]; exact Nat.le_refl _))
      rw [HT1.out] at HO
      have HI1 : Hid (HIn wr Aq k cq H) := Lib.hid (own_hin HO.out HH32.out HHL.out)
      go_wp2_with fail
      refine (HROOT.out wr (HE2.out.step HCwr.out) (HL2.out.below HCwr.out)).mono ?_
      rintro ev w4 ⟨rfl, bb⟩
      have HCw4 : Hid (Below w2.heap.size w2 w4) := Lib.hid (HCwr.out.trans (bb.mono HCwr.out.size))
      have Sw4 : Hid (Below wr.heap.size wr w4) := Lib.hid bb
      clear bb
      go_upto_region 13 with (refine wpList_store_row_any rfl 34 _ _ rfl w4.heap.size vr rfl rfl 34 _ (heap_at _ _ _ rfl) Ivr.out (by rw [Zvr.out]; rfl) Ovr.out ?_; intro w5 hbN hgN hsN; have bs : Below w4.heap.size w4 w5 := ((Below.refl _ w4).alloc (Nat.le_refl _) _).trans (hbN.to_below (by simp) (fun k hk q => by omega)); have Rw5 := Lib.hid hgN; clear hbN hgN hsN)
      have HCw5 : Hid (Below w2.heap.size w2 w5) := Lib.hid (HCw4.out.trans (bs.mono HCw4.out.size))
      have Sw5 : Hid (Below w4.heap.size w4 w5) := Lib.hid bs
      clear bs
      have HI5 : Hid (HIn w5 Aq k cq H) := Lib.hid (HI1.out.below (Sw4.out.trans (Sw5.out.mono Sw4.out.size)))
      go_wp2_with (refine wpList_load_row_g rfl 34 _ rfl w4.heap.size rfl 34 vr (0, 0) _ Rw5.out Tryd.underlying34 rfl Ivr.out ?_)
      refine (HVF.out Aq cq w5 (HE2.out.step HCw5.out) HI5.out (HP2.out.below HCw5.out)).mono ?_
      rintro ev w6 ⟨rfl, bb⟩
      have HCw6 : Hid (Below w2.heap.size w2 w6) := Lib.hid (HCw5.out.trans (bb.mono HCw5.out.size))
      have Sw6 : Hid (Below w5.heap.size w5 w6) := Lib.hid bb
      clear bb
      go_wp2_with fail
      clear HO HI1 HI5
      have HXZ : Hid (X + k ≤ Z ∧ Z ≤ L.length ∧ L.length ≤ 1048576) := Lib.hid ⟨by have := HVO.out.2.1; have := HKN.out.1; omega, HZL.out, HN9.out.1⟩
      have hz1 : (0 : Int) < (Z : Int) := by have := HVO.out; omega
      have hz2 : ((Z : Int) == 0) = false := by simp; omega
      obtain ⟨wo, rfl⟩ : ∃ x, x = wr := ⟨_, rfl⟩
      go_loopw [21, 22] (fun s i wr => ∃ j, ∃ sb : Bool, j ≤ k ∧ i = .int .i64 (j : Nat) ∧ s = .bool sb ∧ Hid (sb = decide (E.take j = (L.drop X).take j)) ∧ Hid (Below w6.heap.size w6 wr)) (fun _ i _ => k - (intOf i).toNat)
      case atStart => exact ⟨0, true, Nat.zero_le _, rfl, rfl, Lib.hid (by simp), Lib.hid (Below.refl _ _)⟩
      case round =>
        obtain ⟨j, sb, hj, rfl, rfl, HSBj, HGq⟩ := hrel
        obtain ⟨wq, rfl⟩ : ∃ x, x = wr := ⟨_, rfl⟩
        have HCwq : Hid (Below w2.heap.size w2 wq) := Lib.hid (HCw6.out.trans (HGq.out.mono HCw6.out.size))
        by_cases hlt : j < k
        · obtain ⟨d, hd⟩ : ∃ s, E[j]? = some s := ⟨_, List.getElem?_eq_getElem (by have := HKN.out; omega)⟩
          obtain ⟨y, hy⟩ : ∃ s, L[X + j]? = some s := ⟨_, List.getElem?_eq_getElem (by have := HXZ.out; omega)⟩
          obtain ⟨gs, os, rfl, hc0, hgs, hsz⟩ := HS2.out.at hd
          have hc := cell_below HCwq.out hc0 hgs
          have HTE := Lib.hid (take_eq hd hy)
          have HY := Lib.hid hy
          have i0' : (0 : Int) ≤ j := by omega
          have i1 : (j : Int) < k := by omega
          have hwk : IntKind.u64.wrap (j : Int) = j := IntWalk.u64_in _ (by have := HKN.out; omega)
          have hwx : IntKind.u64.wrap ((X : Int) + j) = (X : Int) + j := IntWalk.u64_in _ (by have := HXZ.out; omega)
          clear hd hy hc0 hgs
          go_wp2_with fail
          rw [show ((X : Int) + (j : Int)) = ((X + j : Nat) : Int) by omega]
          refine (lleaf_ok base b v L wq (HL2.out.below HCwq.out) (X + j) y HY.out).mono ?_
          rintro ev w' ⟨rfl, rfl⟩
          cases sb with
          | false =>
            go_wp2
            go_roundw
            case rel => exact ⟨j + 1, false, by omega, by go_num, rfl, Lib.hid (by rw [HTE.out, ← HSBj.out]; rfl), HGq⟩
            case measure => simp [intOf]; omega
          | true =>
            by_cases hdy : d = y
            · subst hdy
              have hdd : (d == d) = true := (Go.MapKept.bytes_beq d d).2 rfl
              go_wp2
              go_roundw
              case rel => exact ⟨j + 1, true, by omega, by go_num, rfl, Lib.hid (by rw [HTE.out, ← HSBj.out]; simp), HGq⟩
              case measure => simp [intOf]; omega
            · have hq1 : ¬ y.toList = d.toList := str_ne (fun e => hdy e.symm)
              have hq2 : decide (y.toList = d.toList) = false := by simp [hq1]
              have hq3 : (y.toList == d.toList) = false := by simp [hq1]
              have hyd : ¬ y = d := fun e => hdy e.symm
              have hq4 : decide (y = d) = false := by simp [hyd]
              have hq5 : (y == d) = false := by cases h : (y == d) with | false => rfl | true => exact absurd ((Go.MapKept.bytes_beq y d).1 h) hyd
              go_wp2
              go_roundw
              case rel => exact ⟨j + 1, false, by omega, by go_num, rfl, Lib.hid (by rw [HTE.out, ← HSBj.out]; simp [hdy]), HGq⟩
              case measure => simp [intOf]; omega
        · obtain rfl : k = j := by omega
          obtain rfl : sb = true := by
            have h1 := HSBj.out
            have h2 := HSM.out
            rw [List.take_of_length_le (by rw [HKN.out.1]; exact Nat.le_refl _)] at h1
            rw [h1, h2]
          have RR : Hid (wq.heap[w4.heap.size]? = some (.cells vr 34 (0, 0))) := Lib.hid ((HGq.out.block _ (Nat.lt_of_lt_of_le (Array.getElem?_eq_some_iff.1 Rw5.out).1 Sw6.out.size)).trans ((Sw6.out.block _ (Array.getElem?_eq_some_iff.1 Rw5.out).1).trans Rw5.out))
          go_wp2_with (refine wpList_load_row_g rfl 34 _ rfl w4.heap.size rfl 34 vr (0, 0) _ RR.out Tryd.underlying34 rfl Ivr.out ?_)
          refine (HR.out wq (HE2.out.step HCwq.out)).mono ?_
          rintro ev w8 ⟨rfl, bb⟩
          have HCw8 : Hid (Below w2.heap.size w2 w8) := Lib.hid (HCwq.out.trans (bb.mono HCwq.out.size))
          have Sw8 : Hid (Below wq.heap.size wq w8) := Lib.hid bb
          clear bb
          go_wp2_with fail
          refine (HLV.out w8 (HE2.out.step HCw8.out)).mono ?_
          rintro ev w' ⟨rfl, bb⟩
          go_wp2
          go_ret
          exact ⟨rfl, HB2.out.trans ((HCw8.out.trans (bb.mono HCw8.out.size)).mono HB2.out.size)⟩

set_option maxRecDepth 100000 in
set_option maxHeartbeats 16000000 in
theorem fbl_part (a : Nat → Addr) (B : Nat) (D E : List ByteArray) (P : List (List UInt8)) (A : Option Addr) (n c X Z : Nat) (S : Option Addr) (k e : Nat) (G : Option Addr) (m g : Nat) (w : World) (hE : Env B a w) (h : SIn w A n c D) (hX : X < 18446744073709551616) (hZ : Z < 18446744073709551616) (hS : SIn w S k e E) (hp : HIn w G m g P) (hm : m ≤ 9000000000000000000) (hg : n + bulk D + k + bulk E + m ≤ 1048576) (hz : Z ≤ (keptL D).length) (hv : verB X Z (keptL D) E P) (hsm : E ≠ ((keptL D).drop X).take k) :
    Calls Tryd.prog 5 #[.slice A n c, .int .u64 X, .int .u64 Z, .slice S k e, .slice G m g] w fun ev w' => ev = .returned (.bool true) ∧ Below w.heap.size w w' := by
  have HE := Lib.hid hE
  have HD := Lib.hid h
  have HS := Lib.hid hS
  have HP := Lib.hid hp
  have hn9 : n ≤ 140737488355328 := h.2.2.2.2.1
  have hk9 : k ≤ 140737488355328 := hS.2.2.2.2.1
  have HG := Lib.hid hg
  clear hE h hg hS hp
  go_enter Tryd.func5, Tryd.ntmps5
  go_wp2_with fail
  refine (texts_any D A n c w HD.out).mono ?_
  rintro ev w' ⟨t, rfl, ht9, ht, rfl⟩
  have HT0 := Lib.hid ht
  clear ht
  go_wp2_with fail
  refine (texts_any E S k e w HS.out).mono ?_
  rintro ev w' ⟨u, rfl, hu9, hu, rfl⟩
  have HU0 := Lib.hid hu
  clear hu
  go_wp2_with fail
  refine (beyond5 n t k u m w (by omega) ht9 (by omega) hu9 hm).mono ?_
  rintro ev w1 ⟨rfl, hw1⟩
  have b1 : Below w.heap.size w w1 := by rw [hw1]; exact (Below.refl _ _).alloc (Nat.le_refl _) _
  clear hw1
  have hgd : decide (1048576 < n + t + k + u + m) = false := by have := HT0.out; have := HU0.out; have := HG.out; simp; omega
  have hn10 : n ≤ 1048576 := by have := HG.out; omega
  rw [hgd]
  go_wp2_with fail
  refine (logs20_any a B D A n c w1 (HE.out.step b1) (HD.out.below b1) hn10).mono ?_
  rintro ev w2 ⟨b, v, b2, rfl, hL2, bb⟩
  have HL2 := Lib.hid hL2
  have HB2 : Hid (Below w.heap.size w w2) := Lib.hid (b1.trans (bb.mono b1.size))
  have HE2 := Lib.hid (HE.out.step HB2.out)
  have HS2 := Lib.hid (HS.out.below HB2.out)
  have HP2 := Lib.hid (HP.out.below HB2.out)
  have HCw2 : Hid (Below w2.heap.size w2 w2) := Lib.hid (Below.refl _ _)
  have HKN : Hid (E.length = k ∧ k ≤ 1000000000) := Lib.hid ⟨HS.out.1, by have := HG.out; omega⟩
  have hLK : (keptL D).length ≤ n := by have := keptL_len D D.length; rw [List.take_length] at this; rw [← HD.out.1]; exact this
  have HSZ : Hid (∀ s ∈ E, s.size ≤ 1048576) := Lib.hid (fun s hs => by have := bulk_size hs; have := HG.out; omega)
  have hN9 : (keptL D).length ≤ 1048576 := hL2.1.1
  clear hL2 b1 bb
  obtain ⟨L, hL⟩ : ∃ L, keptL D = L := ⟨_, rfl⟩
  rw [hL] at HL2 hv hN9 hLK hz hsm
  obtain ⟨base, hbase⟩ : ∃ z, w1.heap.size = z := ⟨_, rfl⟩
  rw [hbase] at HL2
  have HN9 : Hid (L.length ≤ 1048576 ∧ k ≤ 1000000) := Lib.hid ⟨hN9, by have := HG.out; have := bulk_len E; have := HS.out.1; omega⟩
  have HLV := Lib.hid (lives20_any a B)
  obtain ⟨vr, evr, Hvr, Zvr, Ivr, Ovr⟩ := row_of (treeB L 0 Z) (treeB_len _ _ _)
  have HROOT : Hid (∀ w, Env B a w → LogAt base b v L w → Calls Tryd.prog 11 #[.pointer (some ⟨b, 0, none⟩), .int .u64 Z] w fun ev w' => ev = .returned (.tuple #[.agg vr, .nilIface]) ∧ Below w.heap.size w w') := Lib.hid (fun w e q => by
    have := lroot_ok a B base b v L Z w e q (by omega) (by omega)
    rw [evr] at this; exact this)
  obtain ⟨r, hr1, hr2, hr3, hr4, hr5⟩ := claim_batch HL2.out.1 hv HS.out.1 hz hsm HP.out.1 (fun s hs => by have := HSZ.out s hs; omega)
  have HFB : Hid (Calls Tryd.prog 20 #[.pointer (some ⟨b, 0, none⟩), .int .u64 X, .int .u64 Z, .slice S k e, .slice G m g] w2 fun ev w' => (∃ s t, ev = .returned (.tuple #[.string s, .string t, .bool true]) ∧ s ≠ t ∧ shaB (bOf s) = shaB (bOf t) ∧ s.size ≤ 100000000000 ∧ t.size ≤ 100000000000) ∧ Below w2.heap.size w2 w') := Lib.hid (by
    have := fbat_part a B base b v L E P X k Z S e G m g w2 HE2.out HL2.out hX hz HS2.out (by have := HN9.out; omega) (fun s hs => by have := HSZ.out s hs; omega) HP2.out hv hsm
    rw [hr1] at this
    refine this.mono (fun ev w' q => ⟨?_, q.2⟩)
    obtain ⟨s, t, q1, q2, q3⟩ := q.1
    exact ⟨s, t, q1, fun q => hr2 (by rw [← q2, ← q3, q]), by rw [q2, q3, hr3], by have := bOf_length s; rw [q2] at this; omega, by have := bOf_length t; rw [q3] at this; omega⟩)
  clear hr1 hr2 hr3 hr4 hr5
  have HVE : (if batchK X Z E.length P.length ≠ 0 then errV a (batchK X Z E.length P.length) else if rootB X Z (E.map leafH) P = treeB L 0 Z then .nilIface else errV a 10) = .nilIface := by
    rw [if_neg (by simp [hv.1]), if_pos hv.2]
  have HVO := Lib.hid (verB_of hv)
  have HSM : Hid (decide (E = (L.drop X).take k) = false) := Lib.hid (by simp [hsm])
  have HVF : Hid (∀ (F : Option Addr) (k' : Nat) w, Env B a w → HIn w F k k' (E.map leafH) → HIn w G m g P → Calls Tryd.prog 21 #[.int .u64 X, .int .u64 Z, .slice F k k', .slice G m g, .agg vr] w fun ev w' => ev = .returned .nilIface ∧ Below w.heap.size w w') := Lib.hid (fun F k' w e q1 q2 => by
    have := fver_any a B X Z L E P G F k m g k' w e hX (by omega) q1 q2
    rw [HVE, evr] at this; exact this)
  have HZL := Lib.hid hz
  have HRIGHT : Hid (∀ (s t : ByteArray) (w : World), s ≠ t → shaB (bOf s) = shaB (bOf t) → s.size ≤ 100000000000 → t.size ≤ 100000000000 → Env B a w → Calls Tryd.prog 17 #[.string s, .string t, .bool true, .bool false, .agg vr] w fun ev w' => ev = .returned (.bool true) ∧ Below w.heap.size w w') := Lib.hid (fun s t w h1 h2 h3 h4 e => by
    have := right_diff a B s t (treeB L 0 Z) w e (treeB_len _ _ _) h3 h4 h1 h2
    rw [evr] at this; exact this)
  clear hL hbase evr hv HVE hz hsm hN9 hLK hX
  obtain ⟨i0, hii, hz0, hz1, hz2⟩ := info_parts info_hash
  have HM : Hid (∀ k : Nat, (E.map leafH).take (k + 1) = (E.map leafH).take k ++ ((E[k]?).map leafH).toList) := Lib.hid (fun k => by rw [List.take_add_one, List.getElem?_map])
  have HHL : Hid ((E.map leafH).length = k) := Lib.hid (by rw [List.length_map]; exact HKN.out.1)
  have HH32 := Lib.hid (leafH_32 E)
  obtain ⟨H, hH⟩ : ∃ H, E.map leafH = H := ⟨_, rfl⟩
  rw [hH] at HVF HM HHL HH32
  clear hH
  go_wp2_with fail
  refine HFB.out.mono ?_
  rintro ev w3 ⟨⟨s0, t0, rfl, q1, q2, q3, q4⟩, bb⟩
  have HR := Lib.hid (fun w e => HRIGHT.out s0 t0 w q1 q2 q3 q4 e)
  clear q1 q2 q3 q4
  have HCw3 : Hid (Below w2.heap.size w2 w3) := Lib.hid (HCw2.out.trans (bb.mono HCw2.out.size))
  have Sw3 : Hid (Below w2.heap.size w2 w3) := Lib.hid bb
  clear bb
  go_wp2_with fail
  go_loopw [17, 18] (fun o i wr => ∃ j Aq cq, j ≤ k ∧ i = .int .i64 (j : Nat) ∧ o = .slice Aq j cq ∧ j ≤ cq ∧ Hid (wr.ownsRow w3.heap.size 34 32 (.slice Aq j cq) j (hashCells (H.take j))) ∧ Hid (Gr w3 wr)) (fun _ i _ => k - (intOf i).toNat)
  case atStart => exact ⟨0, none, 0, Nat.zero_le _, rfl, rfl, Nat.le_refl _, Lib.hid (by simpa [hashCells] using World.ownsRow_nil _ _ _ _), Lib.hid (Gr.refl _)⟩
  case round =>
    obtain ⟨j, Aq, cq, hj, rfl, rfl, hjc, HO, HG3⟩ := hrel
    have HCwr : Hid (Below w2.heap.size w2 wr) := Lib.hid (HCw3.out.trans (HG3.out.mono HCw3.out.size))
    by_cases hlt : j < k
    · obtain ⟨d, hd⟩ : ∃ s, E[j]? = some s := ⟨_, List.getElem?_eq_getElem (by have := HKN.out; omega)⟩
      obtain ⟨gs, os, rfl, hc0, hgs, hsz⟩ := HS2.out.at hd
      have hc := cell_below HCwr.out hc0 hgs
      have hd6 := HSZ.out d (List.mem_of_getElem? hd)
      obtain ⟨vy, evy, Hvy, Zvy, Ivy, Ovy⟩ := row_of (leafH d) (leafH_length _)
      have HX := Lib.hid (And.intro (leafH_length d) Hvy.out)
      have HLF : Hid (∀ w, Env B a w → Calls Tryd.prog 13 #[.string d] w fun ev w' => ev = .returned (.agg vy) ∧ Below w.heap.size w w') := Lib.hid (fun w e => by
        have := hleaf_any d w (by omega) e.tab
        rw [evy] at this; exact this)
      have HTK : Hid (H.take (j + 1) = H.take j ++ [leafH d]) := Lib.hid (by rw [HM.out, hd]; rfl)
      obtain ⟨outk, houtk⟩ : ∃ o, H.take j = o := ⟨_, rfl⟩
      rw [houtk] at HO HTK
      have i0' : (0 : Int) ≤ j := by omega
      have i1 : (j : Int) < k := by omega
      have hk2 : k ≤ 1000000000 := HKN.out.2
      clear hd hc0 evy houtk hgs
      go_wp2_with fail
      refine (HLF.out wr (HE2.out.step HCwr.out)).mono ?_
      rintro ev w4 ⟨rfl, b4⟩
      have HG4 : Hid (Gr w3 w4) := Lib.hid (show Below w3.heap.size w3 w4 from HG3.out.trans (b4.mono HG3.out.size))
      have HO2 : Hid ((w4.alloc (.cells vy 34)).ownsRow w3.heap.size 34 32 (.slice Aq j cq) j (hashCells outk)) := Lib.hid (own_below (own_below HO.out b4 (Nat.le_refl _)) ((Below.refl _ _).alloc (Nat.le_refl _) _) (Nat.le_refl _))
      clear b4
      go_wp2_with (first
        | (refine wpList_buildSlice_row rfl 24 34 _ vy _ 32 rfl rfl Tryd.underlying24 Tryd.sizeOf34 Tryd.zeroValue34 rfl Zvy.out (by omega) (by omega) ?_)
        | (at_builtin; go_loud (refine wpList_append_list rfl _ _ 24 rfl w3.heap.size w4.heap.size 34 i0 _ 32 32 Tryd.underlying24 hii hz0 hz1 hz2 rfl (by omega) (.slice Aq j cq) _ j 1 (hashCells outk) (hashCells [leafH d]) rfl rfl (HO2.out) (own_one w4 w4.heap.size vy (leafH d) HX.out.1 HX.out.2 (Nat.le_refl _)) (hashCells_cell _) (by unfold maxLen; omega) (by omega) (by simp; have := (show Below w3.heap.size w3 w4 from HG4.out).size; omega) ?_); intro v' w9 hown hgrow hblk; obtain ⟨A9, c9, rfl, hc9⟩ := own_shape hown; have HN9x := Lib.hid (And.intro hown (And.intro hgrow hblk)); clear hown hgrow hblk))
      have HG9 : Hid (Gr w3 w9) := Lib.hid ((((Below.refl _ w4).alloc (Nat.le_refl _) _).mono (Below.size HG4.out) |> (show Below w3.heap.size w3 w4 from HG4.out).trans).grown HN9x.out.2.1 (by simp; have := (show Below w3.heap.size w3 w4 from HG4.out).size; omega) (fun q hq => (HO2.out.lt q hq).1))
      go_roundw
      case rel => exact ⟨j + 1, A9, c9, by omega, by go_num, rfl, hc9, Lib.hid (own_congr HN9x.out.1 rfl (by rw [HTK.out, hashCells_append])), HG9⟩
      case measure => simp [intOf]; omega
    · obtain rfl : k = j := by omega
      have HT1 : Hid (H.take k = H) := Lib.hid (List.take_of_length_le (by rw [HHL.out]; exact Nat.le_refl _))
      rw [HT1.out] at HO
      have HI1 : Hid (HIn wr Aq k cq H) := Lib.hid (own_hin HO.out HH32.out HHL.out)
      go_wp2_with fail
      refine (HROOT.out wr (HE2.out.step HCwr.out) (HL2.out.below HCwr.out)).mono ?_
      rintro ev w4 ⟨rfl, bb⟩
      have HCw4 : Hid (Below w2.heap.size w2 w4) := Lib.hid (HCwr.out.trans (bb.mono HCwr.out.size))
      have Sw4 : Hid (Below wr.heap.size wr w4) := Lib.hid bb
      clear bb
      go_upto_region 13 with (refine wpList_store_row_any rfl 34 _ _ rfl w4.heap.size vr rfl rfl 34 _ (heap_at _ _ _ rfl) Ivr.out (by rw [Zvr.out]; rfl) Ovr.out ?_; intro w5 hbN hgN hsN; have bs : Below w4.heap.size w4 w5 := ((Below.refl _ w4).alloc (Nat.le_refl _) _).trans (hbN.to_below (by simp) (fun k hk q => by omega)); have Rw5 := Lib.hid hgN; clear hbN hgN hsN)
      have HCw5 : Hid (Below w2.heap.size w2 w5) := Lib.hid (HCw4.out.trans (bs.mono HCw4.out.size))
      have Sw5 : Hid (Below w4.heap.size w4 w5) := Lib.hid bs
      clear bs
      have HI5 : Hid (HIn w5 Aq k cq H) := Lib.hid (HI1.out.below (Sw4.out.trans (Sw5.out.mono Sw4.out.size)))
      go_wp2_with (refine wpList_load_row_g rfl 34 _ rfl w4.heap.size rfl 34 vr (0, 0) _ Rw5.out Tryd.underlying34 rfl Ivr.out ?_)
      refine (HVF.out Aq cq w5 (HE2.out.step HCw5.out) HI5.out (HP2.out.below HCw5.out)).mono ?_
      rintro ev w6 ⟨rfl, bb⟩
      have HCw6 : Hid (Below w2.heap.size w2 w6) := Lib.hid (HCw5.out.trans (bb.mono HCw5.out.size))
      have Sw6 : Hid (Below w5.heap.size w5 w6) := Lib.hid bb
      clear bb
      go_wp2_with fail
      clear HO HI1 HI5
      have HXZ : Hid (X + k ≤ Z ∧ Z ≤ L.length ∧ L.length ≤ 1048576) := Lib.hid ⟨by have := HVO.out.2.1; have := HKN.out.1; omega, HZL.out, HN9.out.1⟩
      have hz1 : (0 : Int) < (Z : Int) := by have := HVO.out; omega
      have hz2 : ((Z : Int) == 0) = false := by simp; omega
      obtain ⟨wo, rfl⟩ : ∃ x, x = wr := ⟨_, rfl⟩
      go_loopw [21, 22] (fun s i wr => ∃ j, ∃ sb : Bool, j ≤ k ∧ i = .int .i64 (j : Nat) ∧ s = .bool sb ∧ Hid (sb = decide (E.take j = (L.drop X).take j)) ∧ Hid (Below w6.heap.size w6 wr)) (fun _ i _ => k - (intOf i).toNat)
      case atStart => exact ⟨0, true, Nat.zero_le _, rfl, rfl, Lib.hid (by simp), Lib.hid (Below.refl _ _)⟩
      case round =>
        obtain ⟨j, sb, hj, rfl, rfl, HSBj, HGq⟩ := hrel
        obtain ⟨wq, rfl⟩ : ∃ x, x = wr := ⟨_, rfl⟩
        have HCwq : Hid (Below w2.heap.size w2 wq) := Lib.hid (HCw6.out.trans (HGq.out.mono HCw6.out.size))
        by_cases hlt : j < k
        · obtain ⟨d, hd⟩ : ∃ s, E[j]? = some s := ⟨_, List.getElem?_eq_getElem (by have := HKN.out; omega)⟩
          obtain ⟨y, hy⟩ : ∃ s, L[X + j]? = some s := ⟨_, List.getElem?_eq_getElem (by have := HXZ.out; omega)⟩
          obtain ⟨gs, os, rfl, hc0, hgs, hsz⟩ := HS2.out.at hd
          have hc := cell_below HCwq.out hc0 hgs
          have HTE := Lib.hid (take_eq hd hy)
          have HY := Lib.hid hy
          have i0' : (0 : Int) ≤ j := by omega
          have i1 : (j : Int) < k := by omega
          have hwk : IntKind.u64.wrap (j : Int) = j := IntWalk.u64_in _ (by have := HKN.out; omega)
          have hwx : IntKind.u64.wrap ((X : Int) + j) = (X : Int) + j := IntWalk.u64_in _ (by have := HXZ.out; omega)
          clear hd hy hc0 hgs
          go_wp2_with fail
          rw [show ((X : Int) + (j : Int)) = ((X + j : Nat) : Int) by omega]
          refine (lleaf_ok base b v L wq (HL2.out.below HCwq.out) (X + j) y HY.out).mono ?_
          rintro ev w' ⟨rfl, rfl⟩
          cases sb with
          | false =>
            go_wp2
            go_roundw
            case rel => exact ⟨j + 1, false, by omega, by go_num, rfl, Lib.hid (by rw [HTE.out, ← HSBj.out]; rfl), HGq⟩
            case measure => simp [intOf]; omega
          | true =>
            by_cases hdy : d = y
            · subst hdy
              have hdd : (d == d) = true := (Go.MapKept.bytes_beq d d).2 rfl
              go_wp2
              go_roundw
              case rel => exact ⟨j + 1, true, by omega, by go_num, rfl, Lib.hid (by rw [HTE.out, ← HSBj.out]; simp), HGq⟩
              case measure => simp [intOf]; omega
            · have hq1 : ¬ y.toList = d.toList := str_ne (fun e => hdy e.symm)
              have hq2 : decide (y.toList = d.toList) = false := by simp [hq1]
              have hq3 : (y.toList == d.toList) = false := by simp [hq1]
              have hyd : ¬ y = d := fun e => hdy e.symm
              have hq4 : decide (y = d) = false := by simp [hyd]
              have hq5 : (y == d) = false := by cases h : (y == d) with | false => rfl | true => exact absurd ((Go.MapKept.bytes_beq y d).1 h) hyd
              go_wp2
              go_roundw
              case rel => exact ⟨j + 1, false, by omega, by go_num, rfl, Lib.hid (by rw [HTE.out, ← HSBj.out]; simp [hdy]), HGq⟩
              case measure => simp [intOf]; omega
        · obtain rfl : k = j := by omega
          obtain rfl : sb = false := by
            have h1 := HSBj.out
            have h2 := HSM.out
            rw [List.take_of_length_le (by rw [HKN.out.1]; exact Nat.le_refl _)] at h1
            rw [h1, h2]
          have RR : Hid (wq.heap[w4.heap.size]? = some (.cells vr 34 (0, 0))) := Lib.hid ((HGq.out.block _ (Nat.lt_of_lt_of_le (Array.getElem?_eq_some_iff.1 Rw5.out).1 Sw6.out.size)).trans ((Sw6.out.block _ (Array.getElem?_eq_some_iff.1 Rw5.out).1).trans Rw5.out))
          go_wp2_with (refine wpList_load_row_g rfl 34 _ rfl w4.heap.size rfl 34 vr (0, 0) _ RR.out Tryd.underlying34 rfl Ivr.out ?_)
          refine (HR.out wq (HE2.out.step HCwq.out)).mono ?_
          rintro ev w8 ⟨rfl, bb⟩
          have HCw8 : Hid (Below w2.heap.size w2 w8) := Lib.hid (HCwq.out.trans (bb.mono HCwq.out.size))
          have Sw8 : Hid (Below wq.heap.size wq w8) := Lib.hid bb
          clear bb
          go_wp2_with fail
          refine (HLV.out w8 (HE2.out.step HCw8.out)).mono ?_
          rintro ev w' ⟨rfl, bb⟩
          go_wp2
          go_ret
          exact ⟨rfl, HB2.out.trans ((HCw8.out.trans (bb.mono HCw8.out.size)).mono HB2.out.size)⟩

end Go.Proofs.YtaekabhcgdjhfaaDoor

