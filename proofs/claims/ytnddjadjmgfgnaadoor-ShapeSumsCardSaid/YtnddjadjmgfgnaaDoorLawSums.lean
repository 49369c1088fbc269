/- The walk of ShapeSums: whatever it is given it answers true. Condition: the package-level variables read as listed. -/
import Derived.Test.YtnddjadjmgfgnaaDoorLawRising
import Derived.Test.YtnddjadjmgfgnaaDoorSumsPlain
import Derived.Test.YtnddjadjmgfgnaaDoorCoordSpan
import Derived.Test.YtnddjadjmgfgnaaDoorLen64
namespace Go.Proofs.YtnddjadjmgfgnaaDoor
open Go.ChangeShapes Go.WideShapes Go.ChangeAt Go.RowKit
set_option linter.unusedVariables false
theorem cntI_def (x : Int) : cntI x = ((cnt x.toNat : Nat) : Int) := by unfold cntI; rfl
theorem blwI_def (x : Int) : blwI x = ((blw x.toNat : Nat) : Int) := by unfold blwI; rfl
theorem cnt_nat (x : Nat) (w : World) (hx : x < 18446744073709551616) :
    Calls Tryd.prog 18 #[.int .u64 x] w fun e w' => e = .returned (.int .i64 (cnt x)) ∧ w = w' := by
  have hl := cnt_le x
  go_enter Tryd.func18, Tryd.ntmps18
  go_wp2
  go_loop [0, 3] (fun v i => ∃ y j : Nat, y < 18446744073709551616 ∧ v = .int .u64 y ∧ i = .int .i64 j ∧ j + cnt y = cnt x) (fun v _ => (intOf v).toNat)
  case atStart => exact ⟨x, 0, hx, rfl, rfl, by omega⟩
  case round =>
    obtain ⟨y, j, hy, rfl, rfl, hj⟩ := hrel
    by_cases o : 0 < y
    · have h1 : ((y : Int) != 0) = true := by simp; omega
      have ha : bits .and .u64 (y : Int) ((y : Int) - 1) = ((y &&& (y - 1) : Nat) : Int) := by rw [show (y : Int) - 1 = ((y - 1 : Nat) : Int) by omega, and_u64 y (y - 1) hy (by omega)]
      have hq := cnt_clear (x := y) o (by omega)
      have hc := clear_lt o
      have hjb : j + 1 ≤ 64 := by omega
      have H := Lib.hid hj
      have HQ := Lib.hid hq
      have HA := Lib.hid ha
      clear ha hj hq
      go_wp2
      go_round
      case rel => exact ⟨y &&& (y - 1), j + 1, by omega, val_int (by rw [← HA.out]), by go_num, by have := H.out; have := HQ.out; omega⟩
      case measure => simp only [intOf]; rw [HA.out]; omega
    · obtain rfl : y = 0 := by omega
      have hz := cnt_zero
      have H := Lib.hid hj
      have HQ := Lib.hid hz
      clear hj hz
      go_wp2
      go_ret
      exact ⟨ret_int (by have := H.out; have := HQ.out; omega), rfl⟩
theorem cnt_any (x c : Int) (w : World) (h0 : 0 ≤ x) (h1 : x < 18446744073709551616) (hc : c = cntI x) :
    Calls Tryd.prog 18 #[.int .u64 x] w fun e w' => e = .returned (.int .i64 c) ∧ w = w' := by
  have h := cnt_nat x.toNat w (by omega)
  rw [Int.toNat_of_nonneg h0] at h
  rw [hc, cntI_def]; exact h
theorem span_tree2 (lv ix x en : Int) (w : World) (h0 : 0 ≤ lv) (h1 : lv ≤ 63) (h2 : 0 ≤ ix) (h3 : ix * 2 ^ lv.toNat = x) (h5 : en = x + 2 ^ lv.toNat) (h4 : en ≤ 9223372036854775808) :
    Calls Tryd.prog 19 #[.agg #[.int .u8 lv, .int .u64 ix]] w fun ev w' => ev = .returned (.tuple #[.agg #[.int .u64 x, .int .u64 en], .bool true]) ∧ Below w.heap.size w w' := by
  subst h5; exact span_tree lv ix x w h0 h1 h2 h3 h4
theorem FallAt.lt64 : ∀ {l : List (Nat × Nat)} {k : Nat}, Fall k l → ∀ {p : Nat × Nat}, p ∈ l → p.1 < k
  | [], _, _, p, hp => by simp at hp
  | q :: r, k, h, p, hp => by
      rcases List.mem_cons.1 hp with e | hp
      · subst e; exact h.1
      · have := FallAt.lt64 h.2 hp; have := h.1; omega
def FallAt (L : List (Nat × Nat)) (k : Nat) : Prop := (k = 0 → Fall 64 (L.drop k)) ∧ ∀ j, k = j + 1 → ∃ q, L[j]? = some q ∧ Fall q.1 (L.drop k)
set_option maxRecDepth 100000 in
set_option maxHeartbeats 4000000 in
theorem sums_bad (a : Nat → Addr) (B : Nat) (sz : Int) (w : World) (hE0 : Env B a w) (h0 : 9223372036854775808 < sz) (h1 : sz < 18446744073709551616) :
    Calls Tryd.prog 6 #[.int .u64 sz] w fun ev w' => ev = .returned (.bool true) ∧ Below w.heap.size w w' := by
  have hE := Lib.hid hE0
  clear hE0
  have hs : Hid (false = decide (sz ≤ 9223372036854775808)) := Lib.hid (by simp; omega)
  go_enter Tryd.func6, Tryd.ntmps6
  go_wp2_with fail
  refine (peaks_fail a B sz _ (by (repeat (first | exact hE.out | (refine Env.step ?_ (by assumption)) | (refine Env.alloc ?_ _)))) h0 h1).mono ?_
  rintro ev w1 ⟨rfl, b1⟩
  go_wp2_with fail
  refine (split_no sz _ (by omega) h1 (.inr h0)).mono ?_
  rintro ev w' ⟨rfl, rfl⟩
  go_wp2_with fail
  refine (alive_any a B _ (by (repeat (first | exact hE.out | (refine Env.step ?_ (by assumption)) | (refine Env.alloc ?_ _))))).mono ?_
  rintro ev w2 ⟨rfl, b2⟩
  have g1 : decide (2 ≤ sz) = true := by simp; omega
  go_wp2_with fail
  refine (sized_any _ false _ (by omega) (by omega) hs.out).mono ?_
  rintro ev w' ⟨rfl, rfl⟩
  go_wp2_with fail
  refine (sized_any _ false _ (by omega) (by omega) hs.out).mono ?_
  rintro ev w' ⟨rfl, rfl⟩
  unfold errV
  go_wp2_with fail
  refine (is_sent a B 5 _ (Env.laid (by (repeat (first | exact hE.out | (refine Env.step ?_ (by assumption)) | (refine Env.alloc ?_ _))))) (by omega) (by omega)).mono ?_
  rintro ev w3 ⟨rfl, b3⟩
  have HB : Hid (Gr w w3) := Lib.hid (by (repeat (first | exact Gr.refl _ | (refine Gr.step ?_ (by assumption)) | (refine Gr.alloc ?_ _) | (refine Gr.drew ?_) | (refine Gr.drewN ?_ _))))
  go_wp2
  go_ret
  exact ⟨rfl, HB.out⟩
set_option maxRecDepth 100000 in
set_option maxHeartbeats 8000000 in
theorem sums_small (a : Nat → Addr) (B : Nat) (sz : Int) (w : World) (hE0 : Env B a w) (h0 : 0 ≤ sz) (h1 : sz < 2) (h3 : sz ≤ 9223372036854775808) :
    Calls Tryd.prog 6 #[.int .u64 sz] w fun ev w' => ev = .returned (.bool true) ∧ Below w.heap.size w w' := by
  have hE := Lib.hid hE0
  clear hE0
  have hs : Hid (true = decide (sz ≤ 9223372036854775808)) := Lib.hid (by simpa using h3)
  have HP := Lib.hid (peaks_lie (n := sz.toNat) (by omega))
  have HF : Hid (∀ p q r, coverL 128 0 sz.toNat = p :: q :: r → 2 ^ p.1 = blw sz.toNat ∧ p.2 = 0) := Lib.hid (fun p q r h => peaks_first (by omega) h)
  have hcb := cntI_bd sz
  go_enter Tryd.func6, Tryd.ntmps6
  go_wp2_with fail
  refine (peaks_ok a B sz _ (by (repeat (first | exact hE.out | (refine Env.step ?_ (by assumption)) | (refine Env.alloc ?_ _)))) (by omega) h3).mono ?_
  rintro ev w1 ⟨vl, rfl, o1, b1⟩
  obtain ⟨L, hLL⟩ : ∃ L, coverL 128 0 sz.toNat = L := ⟨_, rfl⟩
  rw [hLL] at o1
  have HLL := Lib.hid hLL
  clear hLL
  obtain ⟨n, hn⟩ : ∃ n, L.length = n := ⟨_, rfl⟩
  have hnc : Hid ((n : Int) = cntI sz) := Lib.hid (by rw [cntI_def, ← HP.out.2.1, HLL.out, hn])
  have hn64 : n ≤ 64 := by have := hnc.out; omega
  obtain ⟨_, A, cap, hvl, hA⟩ := rd_own o1
  rw [hn] at hvl hA
  subst hvl
  have HN := Lib.hid hn
  have HA := Lib.hid hA
  clear hn hA o1 hcb
  go_wp2_with fail
  refine (split_no sz _ h0 (by omega) (.inl h1)).mono ?_
  rintro ev w' ⟨rfl, rfl⟩
  go_wp2_with fail
  refine (alive_any a B _ (by (repeat (first | exact hE.out | (refine Env.step ?_ (by assumption)) | (refine Env.alloc ?_ _))))).mono ?_
  rintro ev w2 ⟨rfl, b2⟩
  have g1 : decide (2 ≤ sz) = false := by simp; omega
  go_wp2_with fail
  refine (sized_any _ true _ (by omega) (by omega) hs.out).mono ?_
  rintro ev w' ⟨rfl, rfl⟩
  go_wp2_with fail
  refine (cnt_any sz n _ (by omega) (by omega) hnc.out).mono ?_
  rintro ev w' ⟨rfl, rfl⟩
  have hnn : ((n : Int) != n) = false := by simp
  clear g1
  have hbase : w.heap.size ≤ w2.heap.size := by have := b1.size; have := b2.size; omega
  go_wp2
  go_loopw [7, 8] (fun at_ i wr => ∃ (k : Nat) (x : Int), k ≤ n ∧ at_ = .int .u64 x ∧ i = .int .i64 k ∧ 0 ≤ x ∧ x ≤ sz ∧ Hid (Lie x.toNat (L.drop k) sz.toNat ∧ FallAt L k ∧ Below w2.heap.size w2 wr)) (fun _ i _ => n - (intOf i).toNat)
  case atStart => exact ⟨0, 0, by omega, rfl, rfl, by omega, by omega, Lib.hid ⟨by rw [List.drop_zero, ← HLL.out]; exact HP.out.1, ⟨fun _ => by rw [List.drop_zero, ← HLL.out]; exact HP.out.2.2, fun j h => by omega⟩, Below.refl _ _⟩⟩
  case round =>
    obtain ⟨k, x, hk, rfl, rfl, hx0, hx1, HR⟩ := hrel
    have hbb := HR.out.2.2.size
    by_cases hlt : k < n
    · obtain ⟨g, rfl, hc⟩ : ∃ g, A = some ⟨g, 0, none⟩ ∧ ∀ j u, (coordCells L)[j]? = some u → w1.cell? ⟨g, j, none⟩ = some u := by
        rcases HA.out with q | q
        · omega
        · exact q
      obtain ⟨p, hp⟩ : ∃ p, L[k]? = some p := ⟨_, List.getElem?_eq_getElem (by have := HN.out; omega)⟩
      have hdr : L.drop k = p :: L.drop (k + 1) := by
        obtain ⟨h1, h2⟩ := List.getElem?_eq_some_iff.1 hp
        rw [List.drop_eq_getElem_cons h1, h2]
      have hlie := HR.out.1
      rw [hdr] at hlie
      obtain ⟨l1, l2⟩ := hlie
      have l3 := l2.le
      have hlv : p.1 < 64 := by
        cases k with
        | zero => have h := HR.out.2.1.1 rfl; rw [hdr] at h; exact h.1
        | succ j =>
          obtain ⟨q, hq, hf⟩ := HR.out.2.1.2 j rfl
          rw [hdr] at hf
          have := FallAt.lt64 HP.out.2.2 (by rw [HLL.out]; exact List.mem_of_getElem? hp)
          exact this
      have cc := fun j u hj => cell_below HR.out.2.2 (cell_below b2 (hc j u hj) (block_of_cell (hc j u hj))) (by have := block_of_cell (hc j u hj); have := b2.size; omega)
      have c0 := cc _ _ (coordCells_at L _ _ hp).1
      have c1 := cc _ _ (coordCells_at L _ _ hp).2
      obtain ⟨lv, elv⟩ : ∃ lv : Int, lv = ((p.1 : Nat) : Int) := ⟨_, rfl⟩
      obtain ⟨ix, eix⟩ : ∃ ix : Int, ix = ((p.2 : Nat) : Int) := ⟨_, rfl⟩
      obtain ⟨en, een⟩ : ∃ en : Int, en = x + 2 ^ lv.toNat := ⟨_, rfl⟩
      have hen : Hid (en = ((x.toNat + 2 ^ p.1 : Nat) : Int)) := Lib.hid (by rw [een, elv]; simp; omega)
      have hen1 : 0 ≤ en ∧ en ≤ sz := by have := hen.out; have := Nat.two_pow_pos p.1; omega
      have EEN := Lib.hid een
      have hlv2 : 0 ≤ lv ∧ lv ≤ 63 := by omega
      have hix : 0 ≤ ix := by omega
      have HMUL : Hid (ix * 2 ^ lv.toNat = x) := Lib.hid (by
        have e : ((p.2 * 2 ^ p.1 : Nat) : Int) = ((x.toNat : Nat) : Int) := by rw [l1]
        rw [eix, elv, Int.toNat_natCast]
        rw [Int.natCast_mul, Int.natCast_pow] at e
        rw [Int.toNat_of_nonneg hx0] at e; exact e)
      rw [← elv] at c0
      rw [← eix] at c1
      have HLV := Lib.hid elv
      have HPK := Lib.hid hp
      have HDR := Lib.hid hdr
      have HL2 := Lib.hid l2
      have gl := block_of_cell c0
      have i1 : (k : Int) < n := by omega
      clear hp hc hdr l1 l2 l3 elv eix een hlv
      have hkk : k = 0 ∨ ∃ j, k = j + 1 := by cases k; exact .inl rfl; exact .inr ⟨_, rfl⟩
      rcases hkk with rfl | ⟨j, rfl⟩
      · clear cc
        go_wp2_with fail
        refine (span_tree2 lv ix x en _ hlv2.1 hlv2.2 hix HMUL.out EEN.out (by omega)).mono ?_
        rintro ev w4 ⟨rfl, b4⟩
        have HB4 : Hid (Below w2.heap.size w2 w4) := Lib.hid (HR.out.2.2.trans (b4.mono hbb))
        have d0 := cell_below b4 c0 gl
        have gl4 := block_of_cell d0
        have hbs := b4.size
        have hne : (x != x) = false := by simp
        clear c0 c1
        go_wp2
        go_quiet (fail)
        go_wp2
        go_roundw
        case rel =>
          refine ⟨0 + 1, en, by omega, by first | rfl | go_num, by go_num, by omega, by omega, Lib.hid ⟨by rw [show en.toNat = x.toNat + 2 ^ p.1 by have := hen.out; omega]; exact HL2.out, ⟨fun e => by omega, fun j e => ?_⟩, ?_⟩⟩
          · obtain rfl : j = 0 := by omega
            have h := HR.out.2.1.1 rfl; rw [HDR.out] at h
            exact ⟨p, HPK.out, h.2⟩
          · repeat (first | exact HB4.out | (refine below_drewN ?_) | (refine Below.alloc ?_ (by first | omega | (simp; omega)) _) | (refine Below.setCell ?_ (by first | omega | (simp; omega)) _))
        case measure => simp [intOf]; omega
      · obtain ⟨q, hq, hf⟩ := HR.out.2.1.2 j rfl
        rw [HDR.out] at hf
        obtain ⟨lw, elw⟩ : ∃ lw : Int, lw = ((q.1 : Nat) : Int) := ⟨_, rfl⟩
        have e0 := cc _ _ (coordCells_at L _ _ hq).1
        rw [← elw] at e0
        have hcmp : decide (lw ≤ lv) = false := by have := HLV.out; have := hf.1; simp; omega
        have HFF := Lib.hid hf
        have i2 : (j : Int) + 1 < n := by omega
        have i3 : (j : Int) < n := by omega
        have i4 : (0 : Int) < (j : Int) + 1 := by omega
        clear hq hf elw cc
        go_wp2_with fail
        refine (span_tree2 lv ix x en _ hlv2.1 hlv2.2 hix HMUL.out EEN.out (by omega)).mono ?_
        rintro ev w4 ⟨rfl, b4⟩
        have HB4 : Hid (Below w2.heap.size w2 w4) := Lib.hid (HR.out.2.2.trans (b4.mono hbb))
        have d0 := cell_below b4 c0 gl
        have d1 := cell_below b4 e0 gl
        have gl4 := block_of_cell d0
        have hbs := b4.size
        have hne : (x != x) = false := by simp
        clear c0 c1 e0
        go_wp2
        go_quiet (fail)
        go_wp2
        go_roundw
        case rel =>
          refine ⟨j + 1 + 1, en, by omega, by first | rfl | go_num, by go_num, by omega, by omega, Lib.hid ⟨by rw [show en.toNat = x.toNat + 2 ^ p.1 by have := hen.out; omega]; exact HL2.out, ⟨fun e => by omega, fun i e => ?_⟩, ?_⟩⟩
          · obtain rfl : i = j + 1 := by omega
            exact ⟨p, HPK.out, HFF.out.2⟩
          · repeat (first | exact HB4.out | (refine below_drewN ?_) | (refine Below.alloc ?_ (by first | omega | (simp; omega)) _) | (refine Below.setCell ?_ (by first | omega | (simp; omega)) _))
        case measure => simp [intOf]; omega
    · obtain rfl : n = k := by omega
      have hxs : x = sz := by
        have h := HR.out.1
        rw [List.drop_eq_nil_of_le (by rw [HN.out]; exact Nat.le_refl _)] at h
        have h2 : x.toNat = sz.toNat := h
        omega
      subst hxs
      have hgw : Hid (Gr w wr) := Lib.hid ((((Gr.refl w).step b1).step b2).step HR.out.2.2)
      by_cases hn2 : n < 2
      · have hn2' : (n : Int) < 2 := by omega
        go_wp2
        go_ret
        exact ⟨rfl, hgw.out⟩
      · exfalso
        have h := hnc.out
        have h2 : x = 0 ∨ x = 1 := by omega
        rcases h2 with e | e
        all_goals
          subst e
          have h3 : cntI 0 ≤ 1 ∧ cntI 1 ≤ 1 := by rw [cntI_def, cntI_def]; decide
          omega

set_option maxRecDepth 100000 in
set_option maxHeartbeats 8000000 in
theorem sums_big (a : Nat → Addr) (B : Nat) (sz : Int) (w : World) (hE0 : Env B a w) (h0 : 2 ≤ sz) (h3 : sz ≤ 9223372036854775808) :
    Calls Tryd.prog 6 #[.int .u64 sz] w fun ev w' => ev = .returned (.bool true) ∧ Below w.heap.size w w' := by
  have hE := Lib.hid hE0
  clear hE0
  have hs : Hid (true = decide (sz ≤ 9223372036854775808)) := Lib.hid (by simpa using h3)
  have HP := Lib.hid (peaks_lie (n := sz.toNat) (by omega))
  have HF : Hid (∀ p q r, coverL 128 0 sz.toNat = p :: q :: r → 2 ^ p.1 = blw sz.toNat ∧ p.2 = 0) := Lib.hid (fun p q r h => peaks_first (by omega) h)
  have hcb := cntI_bd sz
  go_enter Tryd.func6, Tryd.ntmps6
  go_wp2_with fail
  refine (peaks_ok a B sz _ (by (repeat (first | exact hE.out | (refine Env.step ?_ (by assumption)) | (refine Env.alloc ?_ _)))) (by omega) h3).mono ?_
  rintro ev w1 ⟨vl, rfl, o1, b1⟩
  obtain ⟨L, hLL⟩ : ∃ L, coverL 128 0 sz.toNat = L := ⟨_, rfl⟩
  rw [hLL] at o1
  have HLL := Lib.hid hLL
  clear hLL
  obtain ⟨n, hn⟩ : ∃ n, L.length = n := ⟨_, rfl⟩
  have hnc : Hid ((n : Int) = cntI sz) := Lib.hid (by rw [cntI_def, ← HP.out.2.1, HLL.out, hn])
  have hn64 : n ≤ 64 := by have := hnc.out; omega
  obtain ⟨_, A, cap, hvl, hA⟩ := rd_own o1
  rw [hn] at hvl hA
  subst hvl
  have HN := Lib.hid hn
  have HA := Lib.hid hA
  clear hn hA o1 hcb
  go_wp2_with fail
  refine (split_yes sz _ h0 h3).mono ?_
  rintro ev w' ⟨rfl, rfl⟩
  obtain ⟨c, hcc⟩ : ∃ c, Hid (blwI sz = c) := ⟨_, Lib.hid rfl⟩
  have hcb := blwI_bd (n := sz) h0
  have hc1 : Hid (1 = cntI c) := Lib.hid (by rw [← hcc.out, cntI_blwI (by omega) h0])
  rw [hcc.out] at hcb ⊢
  go_wp2_with fail
  refine (alive_any a B _ (by (repeat (first | exact hE.out | (refine Env.step ?_ (by assumption)) | (refine Env.alloc ?_ _))))).mono ?_
  rintro ev w2 ⟨rfl, b2⟩
  have g1 : decide (2 ≤ sz) = true := by simpa using h0
  go_wp2_with fail
  refine (sized_any _ true _ (by omega) (by omega) hs.out).mono ?_
  rintro ev w' ⟨rfl, rfl⟩
  go_wp2_with fail
  refine (sized_any _ true _ (by omega) (by omega) hs.out).mono ?_
  rintro ev w' ⟨rfl, rfl⟩
  go_wp2_with fail
  refine (cnt_any sz n _ (by omega) (by omega) hnc.out).mono ?_
  rintro ev w' ⟨rfl, rfl⟩
  have hnn : ((n : Int) != n) = false := by simp
  have g2 : decide (sz ≤ c) = false := by simp; omega
  have g3 : decide (c < sz - c) = false := by simp; omega
  go_wp2_with fail
  refine (cnt_any c 1 _ (by omega) (by omega) hc1.out).mono ?_
  rintro ev w' ⟨rfl, rfl⟩
  clear g1 g2 g3
  have hbase : w.heap.size ≤ w2.heap.size := by have := b1.size; have := b2.size; omega
  go_wp2
  go_loopw [7, 8] (fun at_ i wr => ∃ (k : Nat) (x : Int), k ≤ n ∧ at_ = .int .u64 x ∧ i = .int .i64 k ∧ 0 ≤ x ∧ x ≤ sz ∧ Hid (Lie x.toNat (L.drop k) sz.toNat ∧ FallAt L k ∧ Below w2.heap.size w2 wr)) (fun _ i _ => n - (intOf i).toNat)
  case atStart => exact ⟨0, 0, by omega, rfl, rfl, by omega, by omega, Lib.hid ⟨by rw [List.drop_zero, ← HLL.out]; exact HP.out.1, ⟨fun _ => by rw [List.drop_zero, ← HLL.out]; exact HP.out.2.2, fun j h => by omega⟩, Below.refl _ _⟩⟩
  case round =>
    obtain ⟨k, x, hk, rfl, rfl, hx0, hx1, HR⟩ := hrel
    have hbb := HR.out.2.2.size
    by_cases hlt : k < n
    · obtain ⟨g, rfl, hc⟩ : ∃ g, A = some ⟨g, 0, none⟩ ∧ ∀ j u, (coordCells L)[j]? = some u → w1.cell? ⟨g, j, none⟩ = some u := by
        rcases HA.out with q | q
        · omega
        · exact q
      obtain ⟨p, hp⟩ : ∃ p, L[k]? = some p := ⟨_, List.getElem?_eq_getElem (by have := HN.out; omega)⟩
      have hdr : L.drop k = p :: L.drop (k + 1) := by
        obtain ⟨h1, h2⟩ := List.getElem?_eq_some_iff.1 hp
        rw [List.drop_eq_getElem_cons h1, h2]
      have hlie := HR.out.1
      rw [hdr] at hlie
      obtain ⟨l1, l2⟩ := hlie
      have l3 := l2.le
      have hlv : p.1 < 64 := by
        cases k with
        | zero => have h := HR.out.2.1.1 rfl; rw [hdr] at h; exact h.1
        | succ j =>
          obtain ⟨q, hq, hf⟩ := HR.out.2.1.2 j rfl
          rw [hdr] at hf
          have := FallAt.lt64 HP.out.2.2 (by rw [HLL.out]; exact List.mem_of_getElem? hp)
          exact this
      have cc := fun j u hj => cell_below HR.out.2.2 (cell_below b2 (hc j u hj) (block_of_cell (hc j u hj))) (by have := block_of_cell (hc j u hj); have := b2.size; omega)
      have c0 := cc _ _ (coordCells_at L _ _ hp).1
      have c1 := cc _ _ (coordCells_at L _ _ hp).2
      obtain ⟨lv, elv⟩ : ∃ lv : Int, lv = ((p.1 : Nat) : Int) := ⟨_, rfl⟩
      obtain ⟨ix, eix⟩ : ∃ ix : Int, ix = ((p.2 : Nat) : Int) := ⟨_, rfl⟩
      obtain ⟨en, een⟩ : ∃ en : Int, en = x + 2 ^ lv.toNat := ⟨_, rfl⟩
      have hen : Hid (en = ((x.toNat + 2 ^ p.1 : Nat) : Int)) := Lib.hid (by rw [een, elv]; simp; omega)
      have hen1 : 0 ≤ en ∧ en ≤ sz := by have := hen.out; have := Nat.two_pow_pos p.1; omega
      have EEN := Lib.hid een
      have hlv2 : 0 ≤ lv ∧ lv ≤ 63 := by omega
      have hix : 0 ≤ ix := by omega
      have HMUL : Hid (ix * 2 ^ lv.toNat = x) := Lib.hid (by
        have e : ((p.2 * 2 ^ p.1 : Nat) : Int) = ((x.toNat : Nat) : Int) := by rw [l1]
        rw [eix, elv, Int.toNat_natCast]
        rw [Int.natCast_mul, Int.natCast_pow] at e
        rw [Int.toNat_of_nonneg hx0] at e; exact e)
      rw [← elv] at c0
      rw [← eix] at c1
      have HLV := Lib.hid elv
      have HPK := Lib.hid hp
      have HDR := Lib.hid hdr
      have HL2 := Lib.hid l2
      have gl := block_of_cell c0
      have i1 : (k : Int) < n := by omega
      clear hp hc hdr l1 l2 l3 elv eix een hlv
      have hkk : k = 0 ∨ ∃ j, k = j + 1 := by cases k; exact .inl rfl; exact .inr ⟨_, rfl⟩
      rcases hkk with rfl | ⟨j, rfl⟩
      · clear cc
        go_wp2_with fail
        refine (span_tree2 lv ix x en _ hlv2.1 hlv2.2 hix HMUL.out EEN.out (by omega)).mono ?_
        rintro ev w4 ⟨rfl, b4⟩
        have HB4 : Hid (Below w2.heap.size w2 w4) := Lib.hid (HR.out.2.2.trans (b4.mono hbb))
        have d0 := cell_below b4 c0 gl
        have gl4 := block_of_cell d0
        have hbs := b4.size
        have hne : (x != x) = false := by simp
        clear c0 c1
        go_wp2
        go_quiet (fail)
        go_wp2
        go_roundw
        case rel =>
          refine ⟨0 + 1, en, by omega, by first | rfl | go_num, by go_num, by omega, by omega, Lib.hid ⟨by rw [show en.toNat = x.toNat + 2 ^ p.1 by have := hen.out; omega]; exact HL2.out, ⟨fun e => by omega, fun j e => ?_⟩, ?_⟩⟩
          · obtain rfl : j = 0 := by omega
            have h := HR.out.2.1.1 rfl; rw [HDR.out] at h
            exact ⟨p, HPK.out, h.2⟩
          · repeat (first | exact HB4.out | (refine below_drewN ?_) | (refine Below.alloc ?_ (by first | omega | (simp; omega)) _) | (refine Below.setCell ?_ (by first | omega | (simp; omega)) _))
        case measure => simp [intOf]; omega
      · obtain ⟨q, hq, hf⟩ := HR.out.2.1.2 j rfl
        rw [HDR.out] at hf
        obtain ⟨lw, elw⟩ : ∃ lw : Int, lw = ((q.1 : Nat) : Int) := ⟨_, rfl⟩
        have e0 := cc _ _ (coordCells_at L _ _ hq).1
        rw [← elw] at e0
        have hcmp : decide (lw ≤ lv) = false := by have := HLV.out; have := hf.1; simp; omega
        have HFF := Lib.hid hf
        have i2 : (j : Int) + 1 < n := by omega
        have i3 : (j : Int) < n := by omega
        have i4 : (0 : Int) < (j : Int) + 1 := by omega
        clear hq hf elw cc
        go_wp2_with fail
        refine (span_tree2 lv ix x en _ hlv2.1 hlv2.2 hix HMUL.out EEN.out (by omega)).mono ?_
        rintro ev w4 ⟨rfl, b4⟩
        have HB4 : Hid (Below w2.heap.size w2 w4) := Lib.hid (HR.out.2.2.trans (b4.mono hbb))
        have d0 := cell_below b4 c0 gl
        have d1 := cell_below b4 e0 gl
        have gl4 := block_of_cell d0
        have hbs := b4.size
        have hne : (x != x) = false := by simp
        clear c0 c1 e0
        go_wp2
        go_quiet (fail)
        go_wp2
        go_roundw
        case rel =>
          refine ⟨j + 1 + 1, en, by omega, by first | rfl | go_num, by go_num, by omega, by omega, Lib.hid ⟨by rw [show en.toNat = x.toNat + 2 ^ p.1 by have := hen.out; omega]; exact HL2.out, ⟨fun e => by omega, fun i e => ?_⟩, ?_⟩⟩
          · obtain rfl : i = j + 1 := by omega
            exact ⟨p, HPK.out, HFF.out.2⟩
          · repeat (first | exact HB4.out | (refine below_drewN ?_) | (refine Below.alloc ?_ (by first | omega | (simp; omega)) _) | (refine Below.setCell ?_ (by first | omega | (simp; omega)) _))
        case measure => simp [intOf]; omega
    · obtain rfl : n = k := by omega
      have hxs : x = sz := by
        have h := HR.out.1
        rw [List.drop_eq_nil_of_le (by rw [HN.out]; exact Nat.le_refl _)] at h
        have h2 : x.toNat = sz.toNat := h
        omega
      subst hxs
      have hgw : Hid (Gr w wr) := Lib.hid ((((Gr.refl w).step b1).step b2).step HR.out.2.2)
      by_cases hn2 : n < 2
      · have hn2' : (n : Int) < 2 := by omega
        go_wp2
        go_ret
        exact ⟨rfl, hgw.out⟩
      · obtain ⟨g, rfl, hc⟩ : ∃ g, A = some ⟨g, 0, none⟩ ∧ ∀ j u, (coordCells L)[j]? = some u → w1.cell? ⟨g, j, none⟩ = some u := by
          rcases HA.out with q | q
          · omega
          · exact q
        obtain ⟨p, q, r, hL3⟩ : ∃ p q r, L = p :: q :: r := by
          have := HN.out
          cases L with
          | nil => simp at this; omega
          | cons p L2 =>
            cases L2 with
            | nil => simp at this; omega
            | cons q r => exact ⟨p, q, r, rfl⟩
        have hfst := HF.out p q r (by rw [HLL.out, hL3])
        have hp : L[0]? = some p := by rw [hL3]; rfl
        have hlv : p.1 < 64 := FallAt.lt64 HP.out.2.2 (by rw [HLL.out]; exact List.mem_of_getElem? hp)
        have cc := fun j u hj => cell_below HR.out.2.2 (cell_below b2 (hc j u hj) (block_of_cell (hc j u hj))) (by have := block_of_cell (hc j u hj); have := b2.size; omega)
        have c0 := cc _ _ (coordCells_at L _ _ hp).1
        have c1 := cc _ _ (coordCells_at L _ _ hp).2
        obtain ⟨lv, elv⟩ : ∃ lv : Int, lv = ((p.1 : Nat) : Int) := ⟨_, rfl⟩
        have hlv2 : 0 ≤ lv ∧ lv ≤ 63 := by omega
        rw [← elv] at c0
        rw [hfst.2] at c1
        have EEN : Hid (c = 0 + 2 ^ lv.toNat) := Lib.hid (by rw [← hcc.out, blwI_def, ← hfst.1, elv, Int.toNat_natCast]; simp)
        have gl := block_of_cell c0
        have hn3 : ¬ (n : Int) < 2 := by omega
        have hn4 : (0 : Int) < n := by omega
        clear hp hfst hc cc elv hlv hL3
        simp only [Nat.zero_mul, Nat.zero_add] at c0 c1
        go_wp2_with fail
        refine (span_tree2 lv 0 0 c _ hlv2.1 hlv2.2 (by omega) (by simp) EEN.out (by omega)).mono ?_
        rintro ev w4 ⟨rfl, b4⟩
        have HB : Hid (Gr w w4) := Lib.hid (hgw.out.step b4)
        have hbs := HB.out.size
        clear c0 c1
        go_wp2
        go_ret
        refine ⟨rfl, ?_⟩
        repeat (first | exact HB.out | (refine below_drewN ?_) | (refine Below.alloc ?_ (by first | omega | (simp; omega)) _) | (refine Below.setCell ?_ (by first | omega | (simp; omega)) _))

end Go.Proofs.YtnddjadjmgfgnaaDoor
