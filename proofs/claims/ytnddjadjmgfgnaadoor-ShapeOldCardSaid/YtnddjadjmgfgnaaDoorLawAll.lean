/- The walk of ShapeAll: whatever it is given it answers true. Condition: the package-level variables read as listed. -/
import Derived.Test.YtnddjadjmgfgnaaDoorLawRising
import Derived.Test.YtnddjadjmgfgnaaDoorAllPlain
import Derived.Test.YtnddjadjmgfgnaaDoorBitsLog
namespace Go.Proofs.YtnddjadjmgfgnaaDoor
open Go.ChangeShapes Go.WideShapes Go.ChangeAt Go.RowKit
set_option linter.unusedVariables false
theorem most_yes (n sz more : Int) (w : World) (h0 : 0 ≤ n) (h1 : n ≤ lgI sz + more) (h2 : 1 ≤ sz) (h3 : sz < 18446744073709551616) (h4 : 0 ≤ more) (h5 : more ≤ 1000) :
    Calls Tryd.prog 14 #[.int .i64 n, .int .u64 sz, .int .i64 more] w fun e w' => e = .returned (.bool true) ∧ w = w' := by
  have hb := lgI_bd h3
  go_enter Tryd.func14, Tryd.ntmps14
  go_wp2_with (go_at_call 26; refine (log_yes _ _ (by omega) (by omega)).mono ?_; rintro e w' ⟨rfl, rfl⟩)
  go_ret
  exact ⟨rfl, rfl⟩
set_option maxRecDepth 100000 in
set_option maxHeartbeats 4000000 in
theorem all_bad (a : Nat → Addr) (B : Nat) (x sz : Int) (w : World) (hE0 : Env B a w) (h0 : 0 ≤ x) (h1 : x < 18446744073709551616) (h4 : 0 ≤ sz) (h5 : sz < 18446744073709551616) (h : 9223372036854775808 < sz ∨ sz ≤ x) :
    Calls Tryd.prog 4 #[.int .u64 x, .int .u64 sz] w fun ev w' => ev = .returned (.bool true) ∧ Below w.heap.size w w' := by
  have hE := Lib.hid hE0
  clear hE0
  have HH := Lib.hid h
  obtain ⟨b, hs⟩ : ∃ b, Hid (b = decide (sz ≤ 9223372036854775808)) := ⟨_, Lib.hid rfl⟩
  have hb : Hid (b = true → sz ≤ x) := Lib.hid (by intro q; have := hs.out; rw [q] at this; have := of_decide_eq_true this.symm; omega)
  cases b
  all_goals
    try have hle : sz ≤ x := hb.out rfl
    clear h
    go_enter Tryd.func4, Tryd.ntmps4
    go_wp2_with fail
    refine (path_fail a B x sz _ (Env.laid (by (repeat (first | exact hE.out | (refine Env.step ?_ (by assumption)) | (refine Env.alloc ?_ _))))) (by omega) (by omega) (by omega) (by omega) HH.out).mono ?_
    rintro ev w1 ⟨rfl, b1⟩
    go_wp2_with fail
    refine (alive_any a B _ (by (repeat (first | exact hE.out | (refine Env.step ?_ (by assumption)) | (refine Env.alloc ?_ _))))).mono ?_
    rintro ev w2 ⟨rfl, b2⟩
    go_wp2_with fail
    refine (sized_any _ _ _ (by omega) (by omega) hs.out).mono ?_
    rintro ev w' ⟨rfl, rfl⟩
    unfold errV
    go_wp2_with fail
    refine (is_sent a B 5 _ (Env.laid (by (repeat (first | exact hE.out | (refine Env.step ?_ (by assumption)) | (refine Env.alloc ?_ _))))) (by omega) (by omega)).mono ?_
    rintro ev w3 ⟨rfl, b3⟩
    have HB : Hid (Gr w w3) := Lib.hid (by (repeat (first | exact Gr.refl _ | (refine Gr.step ?_ (by assumption)) | (refine Gr.alloc ?_ _) | (refine Gr.drew ?_) | (refine Gr.drewN ?_ _))))
    go_wp2
    go_ret
    exact ⟨rfl, HB.out⟩
set_option maxRecDepth 100000 in
set_option maxHeartbeats 4000000 in
theorem all_good (a : Nat → Addr) (B : Nat) (x sz : Int) (w : World) (hE0 : Env B a w) (h0 : 0 ≤ x) (h1 : x < sz) (h3 : sz ≤ 9223372036854775808) :
    Calls Tryd.prog 4 #[.int .u64 x, .int .u64 sz] w fun ev w' => ev = .returned (.bool true) ∧ Below w.heap.size w w' := by
  have hE := Lib.hid hE0
  clear hE0
  have hs : Hid (true = decide (sz ≤ 9223372036854775808)) := Lib.hid (by simpa using h3)
  have HT := Lib.hid (pathL_tiles h0 h1 h3)
  have HP := Lib.hid (pathL_perm 64 x 0 sz h0 h1 (by rw [pow2_64]; omega))
  have HG := Lib.hid (pathL_log 64 x 0 sz (by omega) (by rw [pow2_64]; omega))
  have HL := Lib.hid (pathL_len 64 x 0 sz)
  obtain ⟨i0, hi, hz0, hz1, hz2⟩ := info_parts info_span
  go_enter Tryd.func4, Tryd.ntmps4
  go_wp2_with fail
  refine (path_ok x sz _ h0 h1 h3).mono ?_
  rintro ev w1 ⟨vl, rfl, o1, b1⟩
  obtain ⟨L, hLL⟩ : ∃ L, pathL 64 x 0 sz = L := ⟨_, rfl⟩
  rw [hLL] at o1
  have HLL := Lib.hid hLL
  clear hLL
  have hlen : L.length ≤ 64 := by have := HL.out; rw [HLL.out] at this; omega
  have HOW := Lib.hid o1
  obtain ⟨n, hn⟩ : ∃ n, L.length = n := ⟨_, rfl⟩
  obtain ⟨_, A, cap, hvl, hA⟩ := rd_own o1
  rw [hn] at hvl hA hlen
  subst hvl
  have HN := Lib.hid hn
  have HA := Lib.hid hA
  clear hn hA o1
  go_wp2_with fail
  refine (alive_any a B _ (by (repeat (first | exact hE.out | (refine Env.step ?_ (by assumption)) | (refine Env.alloc ?_ _))))).mono ?_
  rintro ev w2 ⟨rfl, b2⟩
  go_wp2_with fail
  refine (sized_any _ true _ (by omega) (by omega) hs.out).mono ?_
  rintro ev w' ⟨rfl, rfl⟩
  go_wp2_with fail
  refine (batch_ok x (x + 1) sz _ h0 (by omega) (by omega) h3).mono ?_
  rintro ev w3 ⟨vb, rfl, o3, b3⟩
  obtain ⟨M, hMM⟩ : ∃ M, batchL 64 x (x + 1) 0 sz = M := ⟨_, rfl⟩
  rw [hMM] at o3
  have HPM : Hid (L.Perm M) := Lib.hid (by have := HP.out; rw [HLL.out, hMM] at this; exact this)
  clear hMM
  obtain ⟨_, A3, cap3, hvb, hA3⟩ := rd_own o3
  have hmn : M.length = n := by rw [← HPM.out.length_eq]; exact HN.out
  rw [hmn] at hvb hA3
  subst hvb
  have HM := Lib.hid hmn
  have HA3 := Lib.hid hA3
  clear hmn hA3 o3
  have hnn : (n : Int) ≤ lgI sz + 0 := by have := HG.out; rw [HLL.out, HN.out, show sz - 0 = sz by omega] at this; omega
  have heq : ((n : Int) != n) = false := by simp
  go_wp2_with fail
  refine (most_yes _ _ _ _ (by omega) hnn (by omega) (by omega) (by omega) (by omega)).mono ?_
  rintro ev w' ⟨rfl, rfl⟩
  clear heq hnn
  go_wp2
  go_loopw [9] (fun i wr => ∃ k nq : Nat, k ≤ n ∧ i = .int .i64 k ∧ wr = w3.drewN nq) (fun i _ => n - (intOf i).toNat)
  case atStart => exact ⟨0, 0, by omega, rfl, rfl⟩
  case round =>
    obtain ⟨k, nq, hk2, rfl, rfl⟩ := hrel
    by_cases hlt : k < n
    · obtain ⟨g, rfl, hc⟩ : ∃ g, A = some ⟨g, 0, none⟩ ∧ ∀ j u, (spanCells L)[j]? = some u → w1.cell? ⟨g, j, none⟩ = some u := by
        rcases HA.out with q | q
        · omega
        · exact q
      obtain ⟨g3, rfl, hc3⟩ : ∃ g, A3 = some ⟨g, 0, none⟩ ∧ ∀ j u, (spanCells M)[j]? = some u → w3.cell? ⟨g, j, none⟩ = some u := by
        rcases HA3.out with q | q
        · omega
        · exact q
      obtain ⟨⟨p1, p2⟩, hp⟩ : ∃ p, L[k]? = some p := ⟨_, List.getElem?_eq_getElem (by have := HN.out; omega)⟩
      have c0 := cell_below b3 (cell_below b2 (hc _ _ (spanCells_at L _ _ hp).1) (block_of_cell (hc _ _ (spanCells_at L _ _ hp).1))) (by have := block_of_cell (hc _ _ (spanCells_at L _ _ hp).1); have := b2.size; omega)
      have c1 := cell_below b3 (cell_below b2 (hc _ _ (spanCells_at L _ _ hp).2) (block_of_cell (hc _ _ (spanCells_at L _ _ hp).2))) (by have := block_of_cell (hc _ _ (spanCells_at L _ _ hp).2); have := b2.size; omega)
      simp only at c0 c1
      have hmem : Hid ((p1, p2) ∈ M) := Lib.hid (HPM.out.mem_iff.1 (List.mem_of_getElem? hp))
      have HC3 := Lib.hid hc3
      clear hp hc hc3
      go_wp2
      go_loopw [10, 11] (fun fd i wr => ∃ (j nq : Nat) (b : Bool), j ≤ n ∧ fd = .bool b ∧ i = .int .i64 j ∧ wr = w3.drewN nq ∧ Hid (b = false → ∀ t p, t < j → M[t]? = some p → p ≠ (p1, p2))) (fun _ i _ => n - (intOf i).toNat)
      case atStart => exact ⟨0, nq, false, by omega, rfl, rfl, rfl, Lib.hid (fun _ t p ht => by omega)⟩
      case round =>
        obtain ⟨j, nq2, b, hj, rfl, rfl, rfl, HB⟩ := hrel
        by_cases hjl : j < n
        · obtain ⟨⟨q1, q2⟩, hq⟩ : ∃ p, M[j]? = some p := ⟨_, List.getElem?_eq_getElem (by have := HM.out; omega)⟩
          have d0 := HC3.out _ _ (spanCells_at M _ _ hq).1
          have d1 := HC3.out _ _ (spanCells_at M _ _ hq).2
          simp only at d0 d1
          have HQ := Lib.hid hq
          have i1 : (j : Int) < n := by omega
          have i2 : (k : Int) < n := by omega
          clear hq
          cases b
          · have HB2 : Hid ((q1, q2) ≠ (p1, p2) → ∀ t p, t < j + 1 → M[t]? = some p → p ≠ (p1, p2)) := Lib.hid (fun hne t p ht hp => by
              by_cases e : t = j
              · subst e; rw [HQ.out] at hp; cases hp; exact hne
              · exact HB.out rfl t p (by omega) hp)
            by_cases e1 : q1 = p1
            · by_cases e2 : q2 = p2
              · subst e1; subst e2
                go_wp2
                go_quiet (fail)
                go_wp2
                go_roundw
                case rel => exact ⟨j + 1, _, true, by omega, rfl, by go_num, rfl, Lib.hid (fun h => by simp at h)⟩
                case measure => simp [intOf]; omega
              · have t2 : (q2 == p2) = false := by simpa using e2
                subst e1
                have HB3 := Lib.hid (HB2.out (by intro e; cases e; exact e2 rfl))
                clear e2
                go_wp2
                go_quiet (fail)
                go_wp2
                go_roundw
                case rel => exact ⟨j + 1, _, false, by omega, rfl, by go_num, rfl, Lib.hid (fun _ => HB3.out)⟩
                case measure => simp [intOf]; omega
            · have t1 : (q1 == p1) = false := by simpa using e1
              have HB3 := Lib.hid (HB2.out (by intro e; cases e; exact e1 rfl))
              clear e1
              go_wp2
              go_quiet (fail)
              go_wp2
              go_roundw
              case rel => exact ⟨j + 1, _, false, by omega, rfl, by go_num, rfl, Lib.hid (fun _ => HB3.out)⟩
              case measure => simp [intOf]; omega
          · go_wp2
            go_quiet (fail)
            go_wp2
            go_roundw
            case rel => exact ⟨j + 1, _, true, by omega, rfl, by go_num, rfl, Lib.hid (fun h => by simp at h)⟩
            case measure => simp [intOf]; omega
        · cases b
          · exfalso
            obtain ⟨t, ht⟩ := List.mem_iff_getElem?.1 hmem.out
            have htn : t < n := by rw [← HM.out]; exact (List.getElem?_eq_some_iff.1 ht).1
            exact HB.out rfl t _ (by omega) ht rfl
          · go_wp2
            go_roundw
            case rel => exact ⟨k + 1, _, by omega, by go_num, rfl⟩
            case measure => simp [intOf]; omega
    · have hb3n : Below w3.heap.size w3 (w3.drewN nq) := below_drewN (Below.refl _ _)
      obtain ⟨w3', hw3'⟩ : ∃ W, w3.drewN nq = W := ⟨_, rfl⟩
      rw [hw3'] at hb3n ⊢
      clear hw3'
      have hsrc := own_below (own_below (own_below HOW.out b2 (Nat.le_refl _)) b3 (Nat.le_refl _)) hb3n (Nat.le_refl _)
      have HS := Lib.hid (own_congr hsrc HN.out rfl)
      clear hsrc
      have hg3 : Hid (Gr w w3') := Lib.hid (by (repeat (first | exact Gr.refl _ | (refine Gr.step ?_ (by assumption)) | (refine Gr.alloc ?_ _) | (refine Gr.drew ?_) | (refine Gr.drewN ?_ _))))
      go_wp2_with (first | (go_at_call 12; refine (span_any _ _ _).mono ?_; rintro ev w4 ⟨rfl, b4⟩) | (at_builtin; refine wpList_append_list rfl _ _ 23 rfl w4.heap.size w.heap.size 32 i0 (.agg #[.int .u64 0, .int .u64 0]) 2 16 Tryd.underlying23 hi hz0 hz1 hz2 rfl (by decide) (.slice (some ⟨w4.heap.size, 0, none⟩) 1 1) _ 1 n [.int .u64 x, .int .u64 (x + 1)] (spanCells L) rfl rfl (own_new #[.int .u64 x, .int .u64 (x + 1)] _ 1 2 (Nat.le_refl _) rfl (by decide)) ((own_below HS.out b4 (Nat.le_refl _)).alloc _) (spanCells_cell L) (by unfold maxLen; omega) (by omega) (by simp) ?_; intro v5 w5 hown5 hgrow5 hat5))
      obtain ⟨C, hC1, hC2⟩ := HT.out
      rw [HLL.out] at hC2
      have hb5 : Hid (Below w.heap.size w w5) := Lib.hid (by
        have h4 : Gr w w4 := hg3.out.step b4
        exact (h4.alloc _).grown hgrow5 (by simp; have := h4.size; omega) (fun k hk => by have := h4.size; simp [Value.ownBlock] at hk; omega))
      refine (tiles_yes C ((x, x + 1) :: L) 0 sz v5 w5 (by have := HN.out; simp; omega) (by omega) (by omega) ((rd_own hown5).congr (by have := HN.out; simp; omega) (by simp [spanCells])) hC1 hC2).mono ?_
      rintro ev w6 ⟨rfl, b6⟩
      have HB : Hid (Gr w w6) := Lib.hid (Gr.step hb5.out b6)
      go_wp2
      go_ret
      exact ⟨rfl, HB.out⟩
end Go.Proofs.YtnddjadjmgfgnaaDoor
