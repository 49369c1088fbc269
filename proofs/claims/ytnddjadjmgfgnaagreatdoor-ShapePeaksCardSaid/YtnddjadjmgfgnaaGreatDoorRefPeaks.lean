/- cartularyref07.Peaks: what the reference answers. No condition. -/
import Derived.Test.YtnddjadjmgfgnaaGreatDoorRefPowers
import Derived.Test.YtnddjadjmgfgnaaGreatDoorRefTops
import Derived.Test.YtnddjadjmgfgnaaGreatDoorCover
import Derived.Test.YtnddjadjmgfgnaaGreatDoorSameLists
namespace Go.Proofs.YtnddjadjmgfgnaaGreatDoor
open Go.ChangeShapes Go.WideShapes Go.ChangeAt Go.RowKit
set_option linter.unusedVariables false
theorem lgI_two (e : Nat) (q : Int) (hq : q = ((2 ^ e : Nat) : Int)) : lgI q = e := by
  cases e with
  | zero => rw [hq]; exact lgI_one
  | succ k =>
    have h := pw_succ k
    have hp := pw_pos k
    exact lgI_eq (n := q) (p := ((2 ^ k : Nat) : Int)) (e := k) rfl (by omega) (by omega)
theorem powCells_at (l : List (Nat × Nat)) (i : Nat) (p : Nat × Nat) (h : l[i]? = some p) : (powCells l)[i]? = some (.int .u64 ((2 ^ p.1 : Nat) : Int)) := by
  unfold powCells; rw [List.getElem?_map, h]; rfl
theorem Fall.lt64 : ∀ {l : List (Nat × Nat)} {k : Nat}, Fall k l → ∀ {p : Nat × Nat}, p ∈ l → p.1 < k
  | [], _, _, p, hp => by simp at hp
  | q :: r, k, h, p, hp => by
      rcases List.mem_cons.1 hp with e | hp
      · subst e; exact h.1
      · have := Fall.lt64 h.2 hp; have := h.1; omega
theorem refPeaks_fail (sz : Int) (w : World) (h0 : 9223372036854775808 < sz) (h1 : sz < 18446744073709551616) :
    Calls Tryz.prog 8 #[.int .u64 sz] w (RefFail w) := by
  have hS := Lib.hid (Slot.new w (.int .i64 0) (.int .i64 0) 29)
  go_enter Tryz.func8, Tryz.ntmps8
  go_wp2_with fail
  refine (fault_yes _).mono ?_
  rintro ev w1 ⟨rfl, b1⟩
  have hS1 := hS.out.below b1 (by simp)
  have hSx := hS1
  obtain ⟨⟨u0, c0⟩, ⟨u1, c1⟩, f0, f1⟩ := hSx
  have hk0 := hS1.k0 (.int .i64 5) (.int .i64 (-1))
  have hk1 := hS1.k1 (.int .i64 5) (.int .i64 (-1))
  have HB : Hid (Below w.heap.size w w1) := Lib.hid (((Below.refl _ w).alloc (Nat.le_refl _) _).trans (b1.mono (by simp)))
  clear b1 hS1
  go_wp2
  refine bodyPost_ret (v := .tuple #[.slice none 0 0, .agg #[.int .i64 5, .int .i64 (-1)]]) (by simp [results, Tryz.results8, go_sem, hk0, hk1]) rfl ⟨rfl, ?_⟩
  exact Below.setCell (Below.setCell HB.out (by simp) _) (by simp) _
set_option maxRecDepth 100000 in
set_option maxHeartbeats 4000000 in
theorem refPeaks_ok (sz : Int) (w : World) (h0 : 0 ≤ sz) (h2 : sz ≤ 9223372036854775808) :
    Calls Tryz.prog 8 #[.int .u64 sz] w (RefList 77 2 w (coverL 128 0 sz.toNat).length (coordCells (coverL 128 0 sz.toNat))) := by
  have hS := Lib.hid (Slot.new w (.int .i64 0) (.int .i64 0) 29)
  have HLIE := Lib.hid (peaks_lie (n := sz.toNat) (by omega))
  have hlen := coverL_len 128 0 sz.toNat
  have PW0 := fun w' : World => refpowers sz.toNat sz w' (by omega) h2
  obtain ⟨L, hLL⟩ : ∃ L, coverL 128 0 sz.toNat = L := ⟨_, rfl⟩
  simp only [hLL] at PW0 HLIE hlen ⊢
  obtain ⟨m, hm⟩ : ∃ m, L.length = m := ⟨_, rfl⟩
  have HM := Lib.hid hm
  rw [hm] at hlen
  have PW := Lib.hid PW0
  obtain ⟨i0, hi, hz0, hz1, hz2⟩ := info_parts info_coord
  clear PW0 hLL hm
  go_enter Tryz.func8, Tryz.ntmps8
  go_wp2_with fail
  refine (PW.out _).mono ?_
  rintro ev w1 ⟨vp, rfl, o1, b1⟩
  have hs1 := b1.size
  simp only [World.size_alloc] at hs1
  have hS1 := Lib.hid (hS.out.below b1 (by simp))
  have HB1 : Hid (Below w.heap.size w w1) := Lib.hid (((Below.refl _ w).alloc (Nat.le_refl _) _).trans (b1.mono (by simp)))
  obtain ⟨_, A, cap, hvp, hA⟩ := rd_own o1
  rw [HM.out] at hvp hA
  subst hvp
  have HA := Lib.hid hA
  clear hA o1 b1
  go_wp2
  go_loopw [4, 6, 7] (fun lv at_ i wr => ∃ (k : Nat) (x : Int), k ≤ m ∧ at_ = .int .u64 x ∧ i = .int .i64 k ∧ 0 ≤ x ∧ x ≤ sz ∧ Hid (Lie x.toNat (L.drop k) sz.toNat ∧ wr.ownsRow w1.heap.size 77 2 lv k (coordCells (L.take k)) ∧ Below w1.heap.size w1 wr)) (fun _ _ i _ => m - (intOf i).toNat)
  case atStart => exact ⟨0, 0, by omega, rfl, rfl, by omega, by omega, Lib.hid ⟨HLIE.out.1, World.ownsRow_nil _ _ _ _, Below.refl _ _⟩⟩
  case round =>
    obtain ⟨k, x, hk, rfl, rfl, hx0, hx1, HR⟩ := hrel
    have hbb := HR.out.2.2.size
    by_cases hlt : k < m
    · obtain ⟨g, rfl, hc⟩ : ∃ g, A = some ⟨g, 0, none⟩ ∧ ∀ j u, (powCells L)[j]? = some u → w1.cell? ⟨g, j, none⟩ = some u := by
        rcases HA.out with q | q
        · omega
        · exact q
      obtain ⟨p, hp⟩ : ∃ p, L[k]? = some p := ⟨_, List.getElem?_eq_getElem (by have := HM.out; omega)⟩
      have hdr : L.drop k = p :: L.drop (k + 1) := by
        obtain ⟨h1, h2⟩ := List.getElem?_eq_some_iff.1 hp
        rw [List.drop_eq_getElem_cons h1, h2]
      have htk : L.take (k + 1) = L.take k ++ [p] := by rw [List.take_add_one, hp]; rfl
      have hlie := HR.out.1
      rw [hdr] at hlie
      obtain ⟨l1, l2⟩ := hlie
      have l3 := l2.le
      have hlv := Fall.lt64 HLIE.out.2.2 (List.mem_of_getElem? hp)
      have c0 := hc k _ (powCells_at L k p hp)
      have gw1 := block_of_cell c0
      have c0 := cell_below HR.out.2.2 c0 gw1
      obtain ⟨q, hq⟩ : ∃ q : Int, ((2 ^ p.1 : Nat) : Int) = q := ⟨_, rfl⟩
      rw [hq] at c0
      have hpos := Nat.two_pow_pos p.1
      have hlg := lgI_two p.1 q hq.symm
      have hq1 : 1 ≤ q ∧ x + q ≤ sz := by omega
      have hdiv : Hid (x / q = ((p.2 : Nat) : Int)) := Lib.hid (by
        have e : x = ((p.2 : Nat) : Int) * q := by rw [← hq, ← Int.natCast_mul, l1]; omega
        rw [e]; exact Int.mul_ediv_cancel _ (by omega))
      have hdb : 0 ≤ x / q ∧ x / q ≤ x := ⟨Int.ediv_nonneg hx0 (by omega), Int.ediv_le_self _ hx0⟩
      obtain ⟨lv, elv⟩ : ∃ lv : Int, ((p.1 : Nat) : Int) = lv := ⟨_, rfl⟩
      rw [elv] at hlg
      have hlvb : 0 ≤ lv ∧ lv < 64 := by omega
      have HTK := Lib.hid htk
      have HEL := Lib.hid elv
      have HL2 : Hid (Lie (x + q).toNat (L.drop (k + 1)) sz.toNat) := Lib.hid (by rw [show (x + q).toNat = x.toNat + 2 ^ p.1 by omega]; exact l2)
      have own := HR.out.2.1
      have HOW := Lib.hid own
      have i1 : (k : Int) < m := by omega
      have gl := block_of_cell c0
      have LG := Lib.hid (fun w' : World => reflog_yes q w' (by omega) (by omega))
      simp only [hlg] at LG
      clear hp hc hdr htk l1 l2 l3 hlv elv hpos hlg hq
      go_wp2_with (first | (go_at_call 25; refine (LG.out _).mono ?_; rintro ev w' ⟨rfl, rfl⟩) | (at_builtin; refine wpList_append_lies _ rfl _ _ 23 rfl w1.heap.size 77 i0 (.agg #[.int .u8 0, .int .u64 0]) 2 16 Tryz.underlying23 hi hz0 hz1 hz2 rfl (by decide) u4 _ _ rfl (own.alloc _) ⟨wr.heap.size, 0, none⟩ 1 1 [.int .u8 lv, .int .u64 (x / q)] rfl rfl (news_new _ _) (by simp [Value.oneCell']) (by decide) (by unfold maxLen; omega) (by omega) (by simp; omega) _ rfl ?_; intro g3 cap3 w3 hown3 hgrow3 hat3 hlt3; have c0' := cell_grown hgrow3 (cell_alloc c0 _) (own_ne_low own gw1); have gl3 := block_of_cell c0'))
      go_roundw
      case rel => exact ⟨k + 1, x + q, by omega, by first | rfl | go_num, by go_num, by omega, by omega, Lib.hid ⟨HL2.out, own_congr hown3 rfl (by rw [HTK.out, coordCells_append, hdiv.out, ← HEL.out]; rfl), (HR.out.2.2.alloc (by omega) _).grown hgrow3 (by simp; omega) (fun k' hk' => (HOW.out.lt k' hk').1)⟩⟩
      case measure => simp [intOf]; omega
    · obtain rfl : m = k := by omega
      have HO : Hid (wr.ownsRow w1.heap.size 77 2 u4 L.length (coordCells L)) := Lib.hid (by
        have h := HR.out.2.1
        rw [show L.take m = L from List.take_of_length_le (by rw [HM.out]; exact Nat.le_refl _)] at h
        rw [HM.out]; exact h)
      have hSr := Lib.hid (hS1.out.below HR.out.2.2 (by omega))
      have HBr : Hid (Below w.heap.size w wr) := Lib.hid (HB1.out.trans (HR.out.2.2.mono (by omega)))
      clear HR
      go_wp2_with fail
      refine (fault_no _).mono ?_
      rintro ev w2 ⟨rfl, b2⟩
      have hS2 := hSr.out.below b2 (by omega)
      have o2 := own_below HO.out b2 (Nat.le_refl _)
      have hSx := hS2
      obtain ⟨⟨u0, c0⟩, ⟨u1, c1⟩, f0, f1⟩ := hSx
      have hk0 := hS2.k0 (.int .i64 0) (.int .i64 0)
      have hk1 := hS2.k1 (.int .i64 0) (.int .i64 0)
      have HB : Hid (Below w.heap.size w w2) := Lib.hid (HBr.out.trans (b2.mono (by omega)))
      have HO2 : Hid (((w2.setCell ⟨w.heap.size, 0, none⟩ (.int .i64 0)).setCell ⟨w.heap.size, 1, none⟩ (.int .i64 0)).ownsRow w.heap.size 77 2 u4 L.length (coordCells L)) := Lib.hid (by
        have hlow : some w.heap.size ≠ u4.ownBlock := own_ne_low o2 (by omega)
        exact own_mono (own_setCell (own_setCell o2 hlow _) hlow _) (by omega))
      clear b2 hS2 o2
      go_wp2
      refine bodyPost_ret (v := .tuple #[u4, .agg #[.int .i64 0, .int .i64 0]]) (by simp [results, Tryz.results8, go_sem, hk0, hk1]) rfl ⟨u4, rfl, ?_, ?_⟩
      · exact HO2.out
      · exact Below.setCell (Below.setCell HB.out (by simp) _) (by simp) _
end Go.Proofs.YtnddjadjmgfgnaaGreatDoor
