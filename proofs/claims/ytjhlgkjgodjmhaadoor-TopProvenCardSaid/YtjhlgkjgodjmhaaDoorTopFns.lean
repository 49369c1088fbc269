/- cartularytop.log: a log of texts; hashes: of its leaves; few. Condition: the package-level variables read as listed. -/
import Derived.Test.YtjhlgkjgodjmhaaDoorTopPlain
import Derived.Test.YtjhlgkjgodjmhaaDoorNaiveHashes
import Derived.Test.YtjhlgkjgodjmhaaDoorTexts
import Derived.Test.YtjhlgkjgodjmhaaDoorBitsLog
namespace Go.Proofs.YtjhlgkjgodjmhaaDoor
open Go.ChangeShapes Go.WideShapes Go.ChangeAt Go.RowKit
set_option linter.unusedVariables false
theorem Coll.below_of {Bl : Nat} {w w' : World} {v v' : Value} (h : Coll Bl w w' v v') {B : Nat} (hB : B ≤ Bl) (hs : B ≤ w.heap.size) (hv : ∀ k, v.ownBlock = some k → B ≤ k) : Below B w w' :=
  ⟨h.os, h.tape, h.output, h.size, fun k hk => h.same k (by omega) (by omega) (fun e => by have := hv k e.symm; omega)⟩
theorem LogAt.own_ge {base b : Nat} {v : Value} {L : List ByteArray} {w : World} (h : LogAt base b v L w) : ∀ k, v.ownBlock = some k → base ≤ k := fun k hk => (h.2.2.2.1.lt k hk).1
set_option maxRecDepth 100000 in
set_option maxHeartbeats 4000000 in
theorem toplog_any (a : Nat → Addr) (B : Nat) (D : List ByteArray) (A : Option Addr) (n c : Nat) (w : World) (hE : Env B a w) (h : SIn w A n c D) (hn : n ≤ 9000000000000000000) :
    Calls Tryd.prog 4 #[.slice A n c] w fun ev w' => ∃ b v L, ev = .returned (.pointer (some ⟨b, 0, none⟩)) ∧ LogAt w.heap.size b v L w' ∧ L.length ≤ 400 ∧ Below w.heap.size w w' := by
  have HE := Lib.hid hE
  have HD := Lib.hid h
  have HNEW := Lib.hid (fun w0 h => new_log w.heap.size w0 h)
  have HAP := Lib.hid (fun b v L s w0 h h1 h2 h3 => append_ok w.heap.size b v L s w0 h h1 h2 h3)
  have HBAD := Lib.hid (fun b v L s w0 hE h hb => append_bad a B w.heap.size b v L s w0 hE h hb)
  have HZ := Lib.hid (fun b v L w0 h => lsize_any w.heap.size b v L w0 h)
  have HN := Lib.hid hn
  clear hE h
  go_enter Tryd.func4, Tryd.ntmps4
  go_wp2_with fail
  refine (HNEW.out _ (Nat.le_refl _)).mono ?_
  rintro e w1 ⟨rfl, hL1, hB1⟩
  have hL1' := Lib.hid hL1
  have hB1' := Lib.hid hB1
  obtain ⟨b, hb⟩ : ∃ b, w.heap.size = b := ⟨_, rfl⟩
  have HBB := Lib.hid hb
  clear hL1 hB1
  rw [hb] at hL1' ⊢
  clear hb
  go_wp2_with fail
  go_loopw [4] (fun i wr => ∃ (k : Nat) (v : Value) (L : List ByteArray), k ≤ n ∧ i = .int .i64 k ∧ L.length ≤ 400 ∧ Hid (LogAt w.heap.size b v L wr) ∧ Hid (Below w.heap.size w wr)) (fun i _ => n - (intOf i).toNat)
  case atStart => exact ⟨0, .slice none 0 0, [], Nat.zero_le _, rfl, by simp, Lib.hid (by have := hL1'.out; rw [HBB.out]; simpa using this), hB1'⟩
  case round =>
    obtain ⟨k, v, L, hk, rfl, hq4, HL, HB⟩ := hrel
    obtain ⟨q, hq⟩ : ∃ q, L.length = q := ⟨_, rfl⟩
    have HQ := Lib.hid hq
    have HZ2 := Lib.hid (HZ.out b v L wr HL.out)
    have HSZ : Hid (Calls Tryd.prog 5 #[.pointer (some ⟨b, 0, none⟩)] wr fun e w' => e = .returned (.int .u64 q) ∧ wr = w') := Lib.hid (by have := HZ2.out; rw [hq] at this; exact this)
    rw [hq] at hq4
    clear hq HZ2
    by_cases hlt : k < n
    · obtain ⟨s, hs⟩ : ∃ s, D[k]? = some s := ⟨_, List.getElem?_eq_getElem (by have := HD.out.1; omega)⟩
      obtain ⟨g, o, rfl, hc0, hg, hsz⟩ := HD.out.at hs
      have hc := cell_below HB.out hc0 hg
      have i0 : (0 : Int) ≤ k := by omega
      have i1 : (k : Int) < n := by omega
      have hn9 := HN.out
      have HEr := Lib.hid (HE.out.step HB.out)
      by_cases hq : q < 400
      · have hq1 : (q : Int) < 400 := by omega
        have hq2 : decide ((q : Int) < 400) = true := by simp; omega
        have HC0 := Lib.hid (And.intro hc0 hg)
        by_cases hs6 : s.size ≤ 65536
        · have HA := Lib.hid (HAP.out b v L s wr HL.out hs6 (by have := HQ.out; omega) HB.out.size)
          clear hs hs6 hc0 hg hsz
          go_wp2_with (go_at_call 5; refine HSZ.out.mono ?_; rintro e w' ⟨rfl, rfl⟩)
          refine HA.out.mono ?_
          rintro e w2 ⟨rfl, v2, hL2, hC2⟩
          have HL2 := Lib.hid hL2
          have HB2 := Lib.hid (HB.out.trans (hC2.below_of HL.out.2.1 HB.out.size HL.out.own_ge))
          clear hL2 hC2
          go_wp2_with fail
          go_roundw
          case rel => exact ⟨k + 1, v2, L ++ [s], by omega, by go_num, by rw [List.length_append, HQ.out]; simp; omega, HL2, HB2⟩
          case measure => simp [intOf]; omega
        · have HA := Lib.hid (HBAD.out b v L s wr HEr.out HL.out (.inl (by omega)))
          clear hs hs6 hc0 hg hsz
          go_wp2_with (go_at_call 5; refine HSZ.out.mono ?_; rintro e w' ⟨rfl, rfl⟩)
          refine HA.out.mono ?_
          rintro e w2 ⟨rfl, hb2⟩
          have HL2 := Lib.hid (HL.out.below hb2)
          have HB2 := Lib.hid (HB.out.trans (hb2.mono HB.out.size))
          clear hb2
          go_wp2_with fail
          go_roundw
          case rel => exact ⟨k + 1, v, L, by omega, by go_num, by rw [HQ.out]; omega, HL2, HB2⟩
          case measure => simp [intOf]; omega
      · have hq1 : ¬ (q : Int) < 400 := by omega
        have hq2 : decide ((q : Int) < 400) = false := by simp; omega
        clear hs hc0 hg hsz hc
        go_wp2_with (go_at_call 5; refine HSZ.out.mono ?_; rintro e w' ⟨rfl, rfl⟩)
        go_ret
        exact ⟨b, v, L, rfl, HL.out, by rw [HQ.out]; omega, HB.out⟩
    · obtain rfl : n = k := by omega
      go_wp2_with fail
      go_ret
      exact ⟨b, v, L, rfl, HL.out, by rw [HQ.out]; omega, HB.out⟩
theorem leafB_tree (L : List ByteArray) (k : Nat) : treeB L k (k + 1) = leafG L k := by
  unfold treeB; rw [if_neg (by omega), treeT_leaf nodeH _ _ _ (by omega)]
set_option maxRecDepth 100000 in
set_option maxHeartbeats 4000000 in
theorem tophashes_any (a : Nat → Addr) (B base b0 : Nat) (v : Value) (L : List ByteArray) (w : World) (hE : Env B a w) (h : LogAt base b0 v L w) :
    Calls Tryd.prog 7 #[.pointer (some ⟨b0, 0, none⟩)] w fun ev w' => ∃ A c, ev = .returned (.slice A L.length c) ∧ w'.ownsRow w.heap.size 33 32 (.slice A L.length c) L.length (hashCells (leavesB L 0 L.length)) ∧ Below w.heap.size w w' := by
  have hLm := h.1.1
  have HL := Lib.hid h
  have HE := Lib.hid hE
  obtain ⟨m, hm⟩ : ∃ m, L.length = m := ⟨_, rfl⟩
  have HM := Lib.hid hm
  have HZ : Hid (∀ w, LogAt base b0 v L w → Calls Tryd.prog 5 #[.pointer (some ⟨b0, 0, none⟩)] w fun ev w' => ev = .returned (.int .u64 m) ∧ w = w') := Lib.hid (fun w h => by rw [← hm]; exact lsize_any base b0 v L w h)
  obtain ⟨i0, hi, hz0, hz1, hz2⟩ := info_parts info_hash
  obtain ⟨LB, hLB⟩ : ∃ l, leavesB L 0 L.length = l := ⟨_, rfl⟩
  have HLB : Hid (H32 LB ∧ LB.length = m ∧ ∀ k, k < m → LB[k]? = some (leafG L (k : Int))) := Lib.hid ⟨by rw [← hLB]; exact leavesB_h32 L _ _, by rw [← hLB, hm]; exact leavesB_len L 0 m (by omega), fun k hk => by
    rw [← hLB, hm]
    have := leavesB_at L 0 m k (by omega) hk
    rwa [Nat.zero_add] at this⟩
  rw [hLB, hm]
  rw [hm] at hLm
  clear h hE hm hLB
  go_enter Tryd.func7, Tryd.ntmps7
  go_wp2_with fail
  go_loopw [3, 4] (fun o i wr => ∃ k Aq cq, k ≤ m ∧ i = .int .u64 (k : Nat) ∧ o = .slice Aq k cq ∧ k ≤ cq ∧ Hid (wr.ownsRow w.heap.size 33 32 (.slice Aq k cq) k (hashCells (LB.take k))) ∧ Hid (Gr w wr)) (fun _ i _ => m - (intOf i).toNat)
  case atStart => exact ⟨0, none, 0, Nat.zero_le _, rfl, rfl, Nat.le_refl _, Lib.hid (by simpa [hashCells] using World.ownsRow_nil _ _ _ _), Lib.hid (Gr.refl _)⟩
  case round =>
    obtain ⟨k, Aq, cq, hk, rfl, rfl, hkc, HO, HG⟩ := hrel
    have HZR := Lib.hid (HZ.out wr (HL.out.below HG.out))
    by_cases hlt : k < m
    · obtain ⟨x, hx⟩ : ∃ x, leafG L (k : Int) = x := ⟨_, rfl⟩
      have hxl : x.length = 32 := by have := HLB.out.1 x (List.mem_of_getElem? (by rw [← hx]; exact HLB.out.2.2 k hlt)); exact this
      have HTK : Hid (LB.take (k + 1) = LB.take k ++ [x]) := Lib.hid (by
        rw [List.take_add_one, HLB.out.2.2 k hlt, hx]; rfl)
      obtain ⟨outk, houtk⟩ : ∃ o, LB.take k = o := ⟨_, rfl⟩
      rw [houtk] at HO HTK
      obtain ⟨vx, evx, EX, ZX, IX, OX⟩ := row_of x hxl
      have HX := Lib.hid (And.intro hxl EX.out)
      have HTREE : Hid (∀ w, Env B a w → LogAt base b0 v L w → Calls Tryd.prog 22 #[.pointer (some ⟨b0, 0, none⟩), .agg #[.int .u64 k, .int .u64 ((k : Int) + 1)]] w fun ev w' => ev = .returned (.tuple #[.agg vx, .nilIface]) ∧ Below w.heap.size w w') := Lib.hid (fun w h1 h2 => by
        have := tree_ok a B base b0 v L (k : Int) ((k : Int) + 1) w h1 h2 (by omega) (by omega) (by have := HM.out; omega)
        rw [leafB_tree, hx, evx] at this; exact this)
      have i1 : (k : Int) < m := by omega
      have i2 : k < m := hlt
      have hwk : IntKind.u64.wrap ((k : Int) + 1) = (k : Int) + 1 := IntWalk.u64_in _ (by omega)
      have gW : Gr w wr := HG.out
      have hws := gW.size
      clear hx hxl houtk evx
      go_wp2_with (go_at_call 5; refine HZR.out.mono ?_; rintro ev w' ⟨rfl, rfl⟩)
      refine (HTREE.out wr (HE.out.step HG.out) (HL.out.below HG.out)).mono ?_
      rintro ev w1 ⟨rfl, b1⟩
      go_upto_region 6 with (refine wpList_store_row_any rfl 33 _ _ rfl w1.heap.size vx rfl rfl 33 _ (heap_at _ _ _ rfl) IX.out (by rw [ZX.out]; rfl) OX.out ?_; intro w2 hbN hgN hsN; have b2 : Below w1.heap.size w1 w2 := ((Below.refl _ w1).alloc (Nat.le_refl _) _).trans (hbN.to_below (by simp) (fun k hk q => by omega)); have R2 := Lib.hid hgN; clear hbN hgN hsN)
      have bW2 : Hid (Gr wr w2) := Lib.hid (show Gr wr w2 from (by repeat (first | exact Gr.refl _ | (refine Gr.step ?_ (by assumption)) | (refine Gr.alloc ?_ _) | (refine Gr.drew ?_))))
      have gW2 : Hid (Gr w w2) := Lib.hid (HG.out.step bW2.out)
      have HO2 : Hid ((w2.alloc (.cells vx 33)).ownsRow w.heap.size 33 32 (.slice Aq k cq) k (hashCells outk)) := Lib.hid (own_below (own_below HO.out bW2.out (Nat.le_refl _)) ((Below.refl _ _).alloc (Nat.le_refl _) _) (Nat.le_refl _))
      clear b1 b2 gW
      go_wp2_with (first
        | (refine wpList_load_row rfl 33 _ rfl w1.heap.size rfl 33 vx (0, 0) _ R2.out Tryd.underlying33 rfl IX.out ?_)
        | (refine wpList_buildSlice_row rfl 30 33 _ vx _ 32 rfl rfl Tryd.underlying30 Tryd.sizeOf33 Tryd.zeroValue33 rfl ZX.out (by omega) (by omega) ?_)
        | (refine wpList_append_list rfl _ _ 30 rfl w.heap.size w2.heap.size 33 i0 _ 32 32 Tryd.underlying30 hi hz0 hz1 hz2 rfl (by omega) (.slice Aq k cq) _ k 1 (hashCells outk) (hashCells [x]) rfl rfl (HO2.out) (own_one w2 w2.heap.size vx x HX.out.1 HX.out.2 (Nat.le_refl _)) (hashCells_cell _) (by unfold maxLen; omega) (by omega) (by simp; have := bW2.out.size; omega) ?_; intro v' w9 hown hgrow hblk; obtain ⟨A9, c9, rfl, hc9⟩ := own_shape hown; have HN9 := Lib.hid (And.intro hown (And.intro hgrow hblk)); clear hown hgrow hblk))
      go_roundw
      case rel => exact ⟨k + 1, A9, c9, by omega, by go_num, rfl, hc9, Lib.hid (own_congr HN9.out.1 rfl (by rw [HTK.out, hashCells_append])), Lib.hid ((((Below.refl _ w2).alloc (Nat.le_refl _) _).mono gW2.out.size |> gW2.out.trans).grown HN9.out.2.1 (by simp; have := gW2.out.size; omega) (fun q hq => (HO2.out.lt q hq).1))⟩
      case measure => simp [intOf]; omega
    · obtain rfl : m = k := by omega
      have HT1 : Hid (LB.take m = LB) := Lib.hid (List.take_of_length_le (by rw [HLB.out.2.1]; omega))
      go_wp2_with (go_at_call 5; refine HZR.out.mono ?_; rintro ev w' ⟨rfl, rfl⟩)
      go_ret
      refine ⟨Aq, cq, rfl, ?_, HG.out⟩
      rw [← HT1.out]
      exact HO.out
theorem few_any (A : Option Addr) (m c : Nat) (n : Int) (w : World) (h1 : 1 ≤ n) (h : n < 18446744073709551616) (hm : (m : Int) ≤ lgI n + 1) :
    Calls Tryd.prog 12 #[.slice A m c, .int .u64 n] w fun ev w' => ev = .returned (.bool true) ∧ Below w.heap.size w w' := by
  have hl := lgI_bd h
  have HL := Lib.hid (log_yes n w h1 h)
  obtain ⟨k, hk⟩ : ∃ k, lgI n = k := ⟨_, rfl⟩
  rw [hk] at hl HL hm
  clear hk h h1
  go_enter Tryd.func12, Tryd.ntmps12
  go_wp2_with fail
  refine HL.out.mono ?_
  rintro ev w1 ⟨rfl, rfl⟩
  go_wp2_with fail
  go_ret
  exact ⟨rfl, Below.refl _ _⟩

end Go.Proofs.YtjhlgkjgodjmhaaDoor
