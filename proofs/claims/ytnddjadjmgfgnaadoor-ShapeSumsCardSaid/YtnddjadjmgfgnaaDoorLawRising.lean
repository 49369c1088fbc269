/- The walk of ShapeRising: whatever it is given it answers true. Condition: the package-level variables read as listed. -/
import Derived.Test.YtnddjadjmgfgnaaDoorLaw07
import Derived.Test.YtnddjadjmgfgnaaDoorRisingPlain
import Derived.Laws.AppendOwnNone
import Derived.Outline
namespace Go.Proofs.YtnddjadjmgfgnaaDoor
open Go.ChangeShapes Go.WideShapes Go.ChangeAt Go.RowKit
set_option linter.unusedVariables false
theorem sized_any (n : Int) (b : Bool) (w : World) (h0 : 0 ≤ n) (h1 : n < 18446744073709551616) (hb : b = decide (n ≤ 9223372036854775808)) :
    Calls Tryd.prog 9 #[.int .u64 n] w fun e w' => e = .returned (.bool b) ∧ w = w' := by
  subst hb
  go_enter Tryd.func9, Tryd.ntmps9
  go_wp2
  go_ret
  exact ⟨rfl, rfl⟩
set_option maxRecDepth 100000 in
set_option maxHeartbeats 4000000 in
theorem rising_bad (a : Nat → Addr) (B : Nat) (x y sz : Int) (w : World) (hE0 : Env B a w) (h0 : 0 ≤ x) (h1 : x < 18446744073709551616) (h2 : 0 ≤ y) (h3 : y < 18446744073709551616) (h4 : 0 ≤ sz) (h5 : sz < 18446744073709551616) (h : 9223372036854775808 < sz ∨ sz < y ∨ y ≤ x) :
    Calls Tryd.prog 3 #[.int .u64 x, .int .u64 y, .int .u64 sz] w fun ev w' => ev = .returned (.bool true) ∧ Below w.heap.size w w' := by
  have hE := Lib.hid hE0
  clear hE0
  have HH := Lib.hid h
  by_cases hc : sz ≤ 9223372036854775808
  · have hs : Hid (true = decide (sz ≤ 9223372036854775808)) := Lib.hid (by simpa using hc)
    by_cases hc2 : sz < y
    all_goals
      have hc3 : sz < y ∨ y ≤ x := by omega
      clear h
      go_enter Tryd.func3, Tryd.ntmps3
      go_wp2_with fail
      refine (batch_fail a B x y sz _ (Env.laid (by (repeat (first | exact hE.out | (refine Env.step ?_ (by assumption)) | (refine Env.alloc ?_ _))))) (by omega) (by omega) (by omega) (by omega) (by omega) (by omega) HH.out).mono ?_
      rintro ev w1 ⟨rfl, b1⟩
      go_wp2_with fail
      refine (alive_any a B _ (by (repeat (first | exact hE.out | (refine Env.step ?_ (by assumption)) | (refine Env.alloc ?_ _))))).mono ?_
      rintro ev w2 ⟨rfl, b2⟩
      go_wp2_with fail
      refine (sized_any _ true _ (by omega) (by omega) hs.out).mono ?_
      rintro ev w' ⟨rfl, rfl⟩
      unfold errV
      go_wp2_with fail
      refine (is_sent a B 5 _ (Env.laid (by (repeat (first | exact hE.out | (refine Env.step ?_ (by assumption)) | (refine Env.alloc ?_ _))))) (by omega) (by omega)).mono ?_
      rintro ev w3 ⟨rfl, b3⟩
      have HB : Hid (Gr w w3) := Lib.hid (by (repeat (first | exact Gr.refl _ | (refine Gr.step ?_ (by assumption)) | (refine Gr.alloc ?_ _) | (refine Gr.drew ?_) | (refine Gr.drewN ?_ _))))
      go_wp2
      go_ret
      exact ⟨rfl, HB.out⟩
  · have hs : Hid (false = decide (sz ≤ 9223372036854775808)) := Lib.hid (by simp; omega)
    clear h
    go_enter Tryd.func3, Tryd.ntmps3
    go_wp2_with fail
    refine (batch_fail a B x y sz _ (Env.laid (by (repeat (first | exact hE.out | (refine Env.step ?_ (by assumption)) | (refine Env.alloc ?_ _))))) (by omega) (by omega) (by omega) (by omega) (by omega) (by omega) HH.out).mono ?_
    rintro ev w1 ⟨rfl, b1⟩
    go_wp2_with fail
    refine (alive_any a B _ (by (repeat (first | exact hE.out | (refine Env.step ?_ (by assumption)) | (refine Env.alloc ?_ _))))).mono ?_
    rintro ev w2 ⟨rfl, b2⟩
    go_wp2_with fail
    refine (sized_any _ false _ (by omega) (by omega) hs.out).mono ?_
    rintro ev w' ⟨rfl, rfl⟩
    unfold errV
    go_wp2_with fail
    refine (is_sent a B 5 _ (Env.laid (by (repeat (first | exact hE.out | (refine Env.step ?_ (by assumption)) | (refine Env.alloc ?_ _))))) (by omega) (by omega)).mono ?_
    rintro ev w3 ⟨rfl, b3⟩
    have HB : Hid (Gr w w3) := Lib.hid (by (repeat (first | exact Gr.refl _ | (refine Gr.step ?_ (by assumption)) | (refine Gr.alloc ?_ _) | (refine Gr.drew ?_) | (refine Gr.drewN ?_ _))))
    go_wp2
    go_ret
    exact ⟨rfl, HB.out⟩
set_option maxRecDepth 100000 in
set_option maxHeartbeats 4000000 in
theorem rising_good (a : Nat → Addr) (B : Nat) (x y sz : Int) (w : World) (hE0 : Env B a w) (h0 : 0 ≤ x) (h1 : x < y) (h2 : y ≤ sz) (h3 : sz ≤ 9223372036854775808) :
    Calls Tryd.prog 3 #[.int .u64 x, .int .u64 y, .int .u64 sz] w fun ev w' => ev = .returned (.bool true) ∧ Below w.heap.size w w' := by
  have hE := Lib.hid hE0
  clear hE0
  have hs : Hid (true = decide (sz ≤ 9223372036854775808)) := Lib.hid (by simpa using h3)
  have HT := Lib.hid (batchL_tiles h0 h1 h2 h3)
  have HL := Lib.hid (batchL_len 64 x y 0 sz (by omega) (by rw [pow2_64]; omega))
  obtain ⟨i0, hi, hz0, hz1, hz2⟩ := info_parts info_span
  go_enter Tryd.func3, Tryd.ntmps3
  go_wp2_with fail
  refine (batch_ok x y sz _ h0 h1 h2 h3).mono ?_
  rintro ev w1 ⟨vl, rfl, o1, b1⟩
  have hal := batch_ok 0 sz sz
  obtain ⟨L, hLL⟩ : ∃ L, batchL 64 x y 0 sz = L := ⟨_, rfl⟩
  rw [hLL] at o1
  have HLL := Lib.hid hLL
  clear hLL hal
  have hlen : L.length ≤ 129 := by have := HL.out; rw [HLL.out] at this; omega
  have HO := Lib.hid (rd_own o1)
  have HOW := Lib.hid o1
  obtain ⟨n, hn⟩ : ∃ n, L.length = n := ⟨_, rfl⟩
  obtain ⟨_, A, cap, hvl, hA⟩ := rd_own o1
  rw [hn] at hvl hA hlen
  subst hvl
  have HN := Lib.hid hn
  have HA := Lib.hid hA
  clear hn hA o1
  go_wp2_with fail
  refine (alive_any a B _ (by (repeat (first | exact hE.out | (refine Env.step ?_ (by assumption)) | (refine Env.alloc ?_ _))))).mono ?_
  rintro ev w2 ⟨rfl, b2⟩
  go_wp2_with fail
  refine (sized_any _ true _ (by omega) (by omega) hs.out).mono ?_
  rintro ev w' ⟨rfl, rfl⟩
  go_wp2
  go_loopw [9] (fun i wr => ∃ k nq : Nat, 1 ≤ k ∧ (k ≤ n ∨ k = 1) ∧ i = .int .i64 k ∧ wr = w2.drewN nq) (fun i _ => n - (intOf i).toNat)
  case atStart => exact ⟨1, 0, by omega, by omega, rfl, rfl⟩
  case round =>
    obtain ⟨k, nq, hk1, hk2, rfl, rfl⟩ := hrel
    by_cases hlt : k < n
    · obtain ⟨g, rfl, hc⟩ : ∃ g, A = some ⟨g, 0, none⟩ ∧ ∀ j u, (spanCells L)[j]? = some u → w1.cell? ⟨g, j, none⟩ = some u := by
        rcases HA.out with q | q
        · omega
        · exact q
      obtain ⟨j, rfl⟩ : ∃ j, k = j + 1 := ⟨k - 1, by omega⟩
      obtain ⟨⟨p1, p2⟩, hp⟩ : ∃ p, L[j]? = some p := ⟨_, List.getElem?_eq_getElem (by have := HN.out; omega)⟩
      obtain ⟨⟨q1, q2⟩, hq⟩ : ∃ p, L[j + 1]? = some p := ⟨_, List.getElem?_eq_getElem (by have := HN.out; omega)⟩
      have c0 := cell_below b2 (hc _ _ (spanCells_at L _ _ hp).2) (block_of_cell (hc _ _ (spanCells_at L _ _ hp).2))
      have c1 := cell_below b2 (hc _ _ (spanCells_at L _ _ hq).1) (block_of_cell (hc _ _ (spanCells_at L _ _ hq).1))
      have hle : p2 ≤ q1 := by
        have := HT.out.2
        rw [HLL.out] at this
        obtain ⟨h5, h6⟩ := List.getElem?_eq_some_iff.1 hp
        obtain ⟨h7, h8⟩ := List.getElem?_eq_some_iff.1 hq
        have := (List.pairwise_iff_getElem.1 this) j (j + 1) h5 h7 (by omega)
        rw [h6, h8] at this; exact this
      simp only at c0 c1
      have i1 : (j : Int) < n := by omega
      have i2 : (j : Int) + 1 < n := by omega
      clear hp hq hc
      go_wp2
      go_quiet (fail)
      go_wp2
      go_roundw
      case rel => exact ⟨j + 1 + 1, _, by omega, by omega, by go_num, rfl⟩
      case measure => simp [intOf]; omega
    · have hb2n : Below w2.heap.size w2 (w2.drewN nq) := below_drewN (Below.refl _ _)
      obtain ⟨w2', hw2'⟩ : ∃ W, w2.drewN nq = W := ⟨_, rfl⟩
      rw [hw2'] at hb2n ⊢
      clear hw2'
      go_wp2_with fail
      refine (batch_ok 0 sz sz _ (by omega) (by omega) (by omega) h3).mono ?_
      rintro ev w3 ⟨v3, rfl, o3, b3⟩
      rw [batchL_in (f := 64) (x := 0) (y := sz) (b := 0) (e := sz) (by omega) (by omega)] at o3
      obtain ⟨_, A3, cap3, rfl, _⟩ := rd_own o3
      simp only [List.length_nil]
      clear o3
      have hsrc := own_below (own_below (own_below HOW.out b2 (Nat.le_refl _)) hb2n (Nat.le_refl _)) b3 (Nat.le_refl _)
      have HS := Lib.hid (own_congr hsrc HN.out rfl)
      clear hsrc
      have hg3 : Hid (Gr w w3) := Lib.hid (by (repeat (first | exact Gr.refl _ | (refine Gr.step ?_ (by assumption)) | (refine Gr.alloc ?_ _) | (refine Gr.drew ?_) | (refine Gr.drewN ?_ _))))
      go_wp2_with (first | (go_at_call 12; refine (span_any _ _ _).mono ?_; rintro ev w4 ⟨rfl, b4⟩) | (at_builtin; refine wpList_append_list rfl _ _ 23 rfl w4.heap.size w.heap.size 32 i0 (.agg #[.int .u64 0, .int .u64 0]) 2 16 Tryd.underlying23 hi hz0 hz1 hz2 rfl (by decide) (.slice (some ⟨w4.heap.size, 0, none⟩) 1 1) _ 1 n [.int .u64 x, .int .u64 y] (spanCells L) rfl rfl (own_new #[.int .u64 x, .int .u64 y] _ 1 2 (Nat.le_refl _) rfl (by decide)) ((own_below HS.out b4 (Nat.le_refl _)).alloc _) (spanCells_cell L) (by unfold maxLen; omega) (by omega) (by simp) ?_; intro v5 w5 hown5 hgrow5 hat5))
      obtain ⟨C, hC1, hC2⟩ := HT.out.1
      rw [HLL.out] at hC2
      have hb5 : Hid (Below w.heap.size w w5) := Lib.hid (by
        have h4 : Gr w w4 := hg3.out.step b4
        exact (h4.alloc _).grown hgrow5 (by simp; have := h4.size; omega) (fun k hk => by have := h4.size; simp [Value.ownBlock] at hk; omega))
      refine (tiles_yes C ((x, y) :: L) 0 sz v5 w5 (by have := HN.out; simp; omega) (by omega) (by omega) ((rd_own hown5).congr (by have := HN.out; simp; omega) (by simp [spanCells])) hC1 hC2).mono ?_
      rintro ev w6 ⟨rfl, b6⟩
      have HB : Hid (Gr w w6) := Lib.hid (Gr.step hb5.out b6)
      go_wp2
      go_ret
      exact ⟨rfl, HB.out⟩
end Go.Proofs.YtnddjadjmgfgnaaDoor
