/- coord.Cover, what it answers: the whole trees that a stretch is. Condition: the package-level variables read as listed. -/
import Derived.Test.YtdodfeoaioolnaaDoorCoverPlain
import Derived.Test.YtdodfeoaioolnaaDoorTz64
import Derived.Test.YtdodfeoaioolnaaDoorLen64
import Derived.Deep.LoopGhost
import Derived.BigQuiet
import Derived.Deep.QuietTactic
import Derived.Outline
namespace Go.Proofs.YtdodfeoaioolnaaDoor
open Go.ChangeShapes Go.WideShapes Go.ChangeAt Go.RowKit
set_option linter.unusedVariables false
theorem info_coord : (Tryd.prog.info? 80).map (fun i => (i.zero, i.size, i.bytes)) = some (some (.agg #[.int .u8 0, .int .u64 0]), 2, 16) := by kernel_rfl
/-- the level of the next tree, and its numbers, over integers -/
def lvI (a e : Int) : Int := ((lvN a.toNat e.toNat : Nat) : Int)
theorem lvI_bd {a e : Int} (h0 : 0 ≤ a) (h : a < e) (he : e ≤ 9223372036854775808) : 0 ≤ lvI a e ∧ lvI a e < 64 := by
  have := lvN_lt (a := a.toNat) (e := e.toNat) (by omega) (by omega)
  unfold lvI; omega
theorem lvI_first {e : Int} (h : 0 < e) : blenI (e - 0) - 1 = lvI 0 e := by
  have h2 : 0 < blen e.toNat := by rw [blen_pos (by omega)]; omega
  unfold lvI lvN blenI; rw [if_neg (by simp)]; simp; omega
theorem lvI_next {a e : Int} (h0 : 0 < a) (h : a < e) : min (blenI (e - a) - 1) (tzI a) = lvI a e := by
  have e1 : (e - a).toNat = e.toNat - a.toNat := by omega
  have h2 : 0 < blen (e.toNat - a.toNat) := by rw [blen_pos (by omega)]; omega
  unfold lvI lvN blenI; rw [tzI_def, if_pos (by omega), e1]; unfold tzN; omega
theorem lvI_pow {a e : Int} (h0 : 0 ≤ a) (h : a < e) (he : e ≤ 9223372036854775808) : 1 ≤ (2 : Int) ^ (lvI a e).toNat ∧ a + 2 ^ (lvI a e).toNat ≤ e := by
  have h1 := lvN_le (a := a.toNat) (e := e.toNat) (by omega)
  have h2 := Nat.two_pow_pos (lvN a.toNat e.toNat)
  have e1 : (2 : Int) ^ (lvI a e).toNat = ((2 ^ lvN a.toNat e.toNat : Nat) : Int) := by unfold lvI; simp
  rw [e1]; omega
theorem lvI_def (a e : Int) : lvI a e = ((lvN a.toNat e.toNat : Nat) : Int) := rfl
theorem lvI_two {a e : Int} : (2 : Int) ^ (lvI a e).toNat = ((2 ^ lvN a.toNat e.toNat : Nat) : Int) := by unfold lvI; simp
theorem lvI_idx {a e : Int} (h0 : 0 ≤ a) : a / 2 ^ (lvI a e).toNat = ((a.toNat / 2 ^ lvN a.toNat e.toNat : Nat) : Int) := by
  rw [lvI_two]; obtain ⟨n, rfl⟩ := Int.eq_ofNat_of_zero_le h0; simp
theorem lvI_sum {a e : Int} (h0 : 0 ≤ a) : (a + 2 ^ (lvI a e).toNat).toNat = a.toNat + 2 ^ lvN a.toNat e.toNat := by
  rw [lvI_two]; obtain ⟨t, ht⟩ : ∃ t : Nat, 2 ^ lvN a.toNat e.toNat = t := ⟨_, rfl⟩
  rw [ht]; omega
theorem cell_next {a e : Int} (h0 : 0 ≤ a) : [Value.int .u8 (lvI a e), Value.int .u64 (a / 2 ^ (lvI a e).toNat)] = coordCells [(lvN a.toNat e.toNat, a.toNat / 2 ^ lvN a.toNat e.toNat)] := by
  rw [lvI_idx h0]; rfl
theorem cell_first (e : Int) : [Value.int .u8 (lvI 0 e), Value.int .u64 0] = coordCells [(lvN (0 : Int).toNat e.toNat, (0 : Int).toNat / 2 ^ lvN (0 : Int).toNat e.toNat)] := by
  have := cell_next (a := 0) (e := e) (Int.le_refl _)
  rw [← this]; simp
attribute [irreducible] lvI
theorem cover_fail (a : Nat → Addr) (B : Nat) (x y : Int) (w : World) (hL : Laid B a w) (h0 : 0 ≤ x) (h1 : x < 18446744073709551616) (h2 : 0 ≤ y) (h3 : y < 18446744073709551616) (h : y < x ∨ 9223372036854775808 < y) :
    Calls Tryd.prog 47 #[.agg #[.int .u64 x, .int .u64 y]] w (FailPost (errV a 5) w) := by
  have he := hL.e5
  have hlo := hL.low
  have hsz := hL.size
  have hg : 1 < w.heap.size := block_of_cell he
  by_cases hc : y < x
  all_goals
    clear hL
    go_enter Tryd.func47, Tryd.ntmps47
    go_wp2
    go_quiet (fail)
    go_wp2
    refine bodyPost_ret (v := .tuple #[.slice none 0 0, errV a 5]) (by simp [results, Tryd.results47, go_sem, errV]) rfl ⟨rfl, ?_⟩
    repeat (first | exact Below.refl _ _ | (refine below_drewN ?_) | (refine Below.drew ?_) | (refine Below.alloc ?_ (by simp; try omega) _) | (refine Below.setCell ?_ (by simp; try omega) _))
structure CRel (base : Nat) (want : List (Nat × Nat)) (w : World) (y : Int) (k : Nat) (vl : Value) (at_ : Int) (out : List (Nat × Nat)) (wr : World) : Prop where
  own : wr.ownsRow (base + 1) 80 2 vl out.length (coordCells out)
  below : Below (base + 1) w wr
  pot : Pot k at_.toNat y.toNat
  eq : want = out ++ coverL k at_.toNat y.toNat
set_option maxRecDepth 100000 in
set_option maxHeartbeats 2000000 in
theorem cover_ok (x y : Int) (w : World) (hT : TzTab w) (hng : 19 ≤ w.heap.size) (h0 : 0 ≤ x) (h1 : x ≤ y) (h2 : y ≤ 9223372036854775808) :
    Calls Tryd.prog 47 #[.agg #[.int .u64 x, .int .u64 y]] w (ListPost 80 2 w (coverL 128 x.toNat y.toNat).length (coordCells (coverL 128 x.toNat y.toNat))) := by
  obtain ⟨i0, hi, hz0, hz1, hz2⟩ := info_parts info_coord
  have hlen := coverL_len 128 x.toNat y.toNat
  obtain ⟨want, hwant⟩ : ∃ L, coverL 128 x.toNat y.toNat = L := ⟨_, rfl⟩
  have HW := Lib.hid hwant
  rw [hwant] at hlen ⊢
  clear hwant
  have HT := Lib.hid hT
  clear hT
  go_enter Tryd.func47, Tryd.ntmps47
  go_wp2
  obtain ⟨W, hW⟩ : ∃ W, w.alloc (.cells #[.int .u64 x, .int .u64 y] 93) = W := ⟨_, rfl⟩
  have hc1 : W.cell? ⟨w.heap.size, 1, none⟩ = some (.int .u64 y) := by rw [← hW]; exact cell_new _ _ 1 _ rfl
  have hbW : Below w.heap.size w W := by rw [← hW]; exact (Below.refl _ _).alloc (Nat.le_refl _) _
  have hsW : W.heap.size = w.heap.size + 1 := by rw [← hW]; simp
  have HSW := Lib.hid hsW
  rw [hW]
  clear hW hsW
  go_loopg [4, 5] 128 (fun k vl t wr => ∃ (out : List (Nat × Nat)) (at_ : Int), 0 ≤ at_ ∧ at_ ≤ y ∧ t = .int .u64 at_ ∧ CRel w.heap.size want W y k vl at_ out wr)
  case atStart =>
    exact ⟨[], x, h0, h1, rfl, World.ownsRow_nil _ _ _ _, Below.refl _ _, pot_start _ _ (by omega), by simp [HW.out]⟩
  case round =>
    obtain ⟨out, at_, ha0, ha1, rfl, hR⟩ := hrel
    have hbs := hR.below.size
    have hc := cell_below hR.below hc1 (Nat.lt_succ_self _)
    have hws : w.heap.size < wr.heap.size := by have := HSW.out; omega
    have hTr : Hid (TzTab wr) := Lib.hid ((HT.out.below hbW hng).below (B := w.heap.size + 1) hR.below (by omega))
    by_cases hlt : at_ < y
    · cases gk with
      | zero => exfalso; have := pot_zero hR.pot; omega
      | succ gk =>
        have holen : out.length + 1 ≤ 128 := by
          have : want.length = out.length + (coverL (gk + 1) at_.toNat y.toNat).length := by rw [hR.eq]; simp
          rw [coverL_step (by omega), List.length_cons] at this; omega
        have hown := hR.own
        have hlv := lvI_bd ha0 hlt h2
        have hlp := lvI_pow ha0 hlt h2
        have hbl := blenI_bd (y := y - at_) (by omega)
        have HR := Lib.hid hR
        clear hR
        have HSUM := Lib.hid (lvI_sum (a := at_) (e := y) ha0)
        have HLD := Lib.hid (cell_next (a := at_) (e := y) ha0)
        have HLZ := Lib.hid (cell_first y)
        by_cases hz : 0 < at_
        · have hlv2 := lvI_next hz hlt
          go_wp2_with fail
          refine (len64_any _ _ (by omega) (by omega)).mono ?_
          rintro ev w1 ⟨rfl, rfl⟩
          go_wp2_with fail
          refine (tz64_any _ _ (by omega) (by omega) hTr.out).mono ?_
          rintro ev w1 ⟨rfl, rfl⟩
          go_wp2_with (at_builtin; refine wpList_append_lies _ rfl _ _ 56 rfl (w.heap.size + 1) 80 i0 (.agg #[.int .u8 0, .int .u64 0]) 2 16 Tryd.underlying56 hi hz0 hz1 hz2 rfl (by decide) u4 _ _ rfl (hown.alloc _) ⟨wr.heap.size, 0, none⟩ 1 1 _ rfl rfl (news_new _ _) (by simp [Value.oneCell']) (by decide) (by unfold maxLen; omega) (by omega) (by simp; omega) _ rfl ?_; intro g3 cap3 w3 hown3 hgrow3 hat3 hlt3)
          go_roundg gk
          case measure => omega
          case rel =>
            have h := HR.out
            have e1 := HSUM.out
            refine ⟨out ++ [(lvN at_.toNat y.toNat, at_.toNat / 2 ^ lvN at_.toNat y.toNat)], at_ + 2 ^ (lvI at_ y).toNat, by omega, by omega, ?_, ?_, ?_, ?_, ?_⟩
            · first | rfl | exact val_int (by simp)
            · exact own_congr hown3 (by simp) (by rw [coordCells_append, HLD.out])
            · exact ((h.below.alloc (by omega) _).grown hgrow3 (by simp; omega) (fun k hk => (h.own.lt k hk).1))
            · rw [e1]; exact pot_step h.pot (by omega) (by omega)
            · rw [h.eq, e1, coverL_step (by omega)]; simp
        · obtain rfl : at_ = 0 := by omega
          have hlv2 : blenI y - 1 = lvI 0 y := by have := lvI_first hlt; simpa using this
          go_wp2_with fail
          refine (len64_any _ _ (by omega) (by omega)).mono ?_
          rintro ev w1 ⟨rfl, rfl⟩
          go_wp2_with (at_builtin; refine wpList_append_lies _ rfl _ _ 56 rfl (w.heap.size + 1) 80 i0 (.agg #[.int .u8 0, .int .u64 0]) 2 16 Tryd.underlying56 hi hz0 hz1 hz2 rfl (by decide) u4 _ _ rfl (hown.alloc _) ⟨wr.heap.size, 0, none⟩ 1 1 _ rfl rfl (news_new _ _) (by simp [Value.oneCell']) (by decide) (by unfold maxLen; omega) (by omega) (by simp; omega) _ rfl ?_; intro g3 cap3 w3 hown3 hgrow3 hat3 hlt3)
          go_roundg gk
          case measure => omega
          case rel =>
            have h := HR.out
            have e1 := HSUM.out
            refine ⟨out ++ [(lvN (0 : Int).toNat y.toNat, (0 : Int).toNat / 2 ^ lvN (0 : Int).toNat y.toNat)], (0 : Int) + 2 ^ (lvI (0 : Int) y).toNat, by omega, by omega, ?_, ?_, ?_, ?_, ?_⟩
            · first | rfl | exact val_int (by simp)
            · exact own_congr hown3 (by simp) (by rw [coordCells_append, HLZ.out])
            · exact ((h.below.alloc (by omega) _).grown hgrow3 (by simp; omega) (fun k hk => (h.own.lt k hk).1))
            · rw [e1]; exact pot_step h.pot (by omega) (by omega)
            · rw [h.eq, e1, coverL_step (by omega)]; simp
    · have HO := Lib.hid (show want = out by rw [hR.eq, coverL_done (by omega)]; simp)
      have hown := own_mono (base' := w.heap.size) (own_congr hR.own (n' := want.length) (xs' := coordCells want) (by rw [HO.out]) (by rw [HO.out])) (by omega)
      have hbw := hbW.trans (hR.below.mono (B' := w.heap.size) (by omega))
      clear hR
      go_wp2
      refine bodyPost_ret (v := .tuple #[_, .nilIface]) (by simp [results, Tryd.results47, go_sem]) rfl ⟨_, rfl, hown, hbw⟩
end Go.Proofs.YtdodfeoaioolnaaDoor
