/- The law BitsPowers: the reference's Powers, SameNumbers, the walk. No condition. -/
import Derived.Test.YtaekhijmnbeahaaBitsPowers
import Derived.Test.YtaekhijmnbeahaaLawAdds
import Derived.BigQuiet
import Derived.Deep.QuietTactic
import Derived.Deep.RegionHeld3
import Derived.Deep.DeepCutAuto
namespace Go.Proofs.Ytaekhijmnbeahaa
open Go.ChangeShapes Go.WideShapes Go.ChangeAt Go.RowKit
set_option linter.unusedVariables false
theorem own_shape {w : World} {base : Nat} {e : TypeId} {size : Nat} {v : Value} {n : Nat} {xs : List Value} (h : w.ownsRow base e size v n xs) : ∃ A cap, v = .slice A n cap ∧ n ≤ cap := by
  rcases h.2 with ⟨h1, h2⟩ | ⟨g, cap, cur, h1, _, _, h3, _⟩
  · subst h2; exact ⟨none, 0, h1, Nat.le_refl _⟩
  · exact ⟨_, cap, h1, h3⟩
theorem func_nil (f : Nat) (a : Array Value) (w : World) : (binOp .eql 87 (.func (.func f) #[] a) .nilFunc).run Try.prog w = .ok (.bool false) w := by
  have h : ∀ d : Nat, (Op.equalIn (d + 1) 87 (.func (.func f) #[] a) .nilFunc).run Try.prog w = .ok false w := fun d => by simp [Op.equalIn, run_underlying Try.underlying87]
  simp only [binOp]
  simp [Op.equal, Op.maxDepth, h 9999]
def bvI (n : Int) : Int := if 2 ≤ n then blwI n else 0
def lvI (n : Int) : Int := if 1 ≤ n then lgI n else 0

theorem below_all (n : Int) (w : World) (h0 : 0 ≤ n) (h9 : n < 18446744073709551616) : Calls Try.prog 64 #[.int .u64 n] w fun e w' => e = .returned (.tuple #[.int .u64 (bvI n), .bool (decide (2 ≤ n))]) ∧ w = w' := by
  by_cases h : 2 ≤ n
  · have h1 := below_yes n w (by omega) h9
    rw [show bvI n = _ from if_pos h, show decide (2 ≤ n) = true by simpa using h]; exact h1
  · have h1 := below_no n w h0 (by omega)
    rw [show bvI n = 0 from if_neg h, show decide (2 ≤ n) = false by simpa using h]; exact h1

theorem log_all (n : Int) (w : World) (h0 : 0 ≤ n) (h9 : n < 18446744073709551616) : Calls Try.prog 66 #[.int .u64 n] w fun e w' => e = .returned (.tuple #[.int .i64 (lvI n), .bool (decide (1 ≤ n))]) ∧ w = w' := by
  by_cases h : 1 ≤ n
  · have h1 := log_yes n w (by omega) h9
    rw [show lvI n = _ from if_pos h, show decide (1 ≤ n) = true by simpa using h]; exact h1
  · obtain rfl : n = 0 := by omega
    exact log_no w

theorem refbelow_all (n : Int) (w : World) (h0 : 0 ≤ n) (h9 : n < 18446744073709551616) : Calls Try.prog 65 #[.int .u64 n] w fun e w' => e = .returned (.tuple #[.int .u64 (bvI n), .bool (decide (2 ≤ n))]) ∧ w = w' := by
  by_cases h : 2 ≤ n
  · have h1 := refbelow_yes n w (by omega) h9
    rw [show bvI n = _ from if_pos h, show decide (2 ≤ n) = true by simpa using h]; exact h1
  · have h1 := refbelow_no n w h0 (by omega)
    rw [show bvI n = 0 from if_neg h, show decide (2 ≤ n) = false by simpa using h]; exact h1

theorem reflog_all (n : Int) (w : World) (h0 : 0 ≤ n) (h9 : n < 18446744073709551616) : Calls Try.prog 67 #[.int .u64 n] w fun e w' => e = .returned (.tuple #[.int .i64 (lvI n), .bool (decide (1 ≤ n))]) ∧ w = w' := by
  by_cases h : 1 ≤ n
  · have h1 := reflog_yes n w (by omega) h9
    rw [show lvI n = _ from if_pos h, show decide (1 ≤ n) = true by simpa using h]; exact h1
  · obtain rfl : n = 0 := by omega
    exact reflog_no w

attribute [irreducible] bvI lvI
set_option maxRecDepth 100000 in
theorem same_numbers (l : List Int) (v1 v2 : Value) (n : Nat) (w : World) (hn : l.length = n) (hl : n ≤ 1000000) (h1 : Rd w v1 1 n (numV l)) (h2 : Rd w v2 1 n (numV l)) :
    Calls Try.prog 70 #[v1, v2] w fun e w' => e = .returned (.bool true) ∧ Below w.heap.size w w' := by
  obtain ⟨_, A1, c1, rfl, h1⟩ := h1
  obtain ⟨_, A2, c2, rfl, h2⟩ := h2
  have HN := Lib.hid hn
  have H1 := Lib.hid h1
  have H2 := Lib.hid h2
  clear hn h1 h2
  go_enter Try.func70, Try.ntmps70
  go_wp2
  go_loopw [5] (fun i wr => ∃ k nq : Nat, k ≤ n ∧ i = .int .i64 k ∧ wr = w.drewN nq) (fun i _ => n - (intOf i).toNat)
  case atStart => exact ⟨0, 0, Nat.zero_le _, rfl, rfl⟩
  case round =>
    obtain ⟨k, nq, hk, rfl, rfl⟩ := hrel
    by_cases hlt : k < n
    · obtain ⟨g1, rfl, hc1⟩ : ∃ g, A1 = some ⟨g, 0, none⟩ ∧ ∀ j u, (numV l)[j]? = some u → w.cell? ⟨g, j, none⟩ = some u := by
        rcases H1.out with q | q
        · omega
        · exact q
      obtain ⟨g2, rfl, hc2⟩ : ∃ g, A2 = some ⟨g, 0, none⟩ ∧ ∀ j u, (numV l)[j]? = some u → w.cell? ⟨g, j, none⟩ = some u := by
        rcases H2.out with q | q
        · omega
        · exact q
      obtain ⟨p, hp⟩ : ∃ p, l[k]? = some p := ⟨_, List.getElem?_eq_getElem (by have := HN.out; omega)⟩
      have hat : (numV l)[k]? = some (.int .u64 p) := by simp [numV, hp]
      have a0 := hc1 _ _ hat
      have b0 := hc2 _ _ hat
      clear hat hp hc1 hc2 H1 H2
      have i0 : (0 : Int) ≤ k := by omega
      have i1 : (k : Int) < n := by omega
      go_wp2
      go_quiet (fail)
      go_wp2
      go_roundw
      case rel => exact ⟨k + 1, _, by omega, by go_num, rfl⟩
      case measure => simp [intOf]; omega
    · go_wp2
      go_ret
      exact ⟨rfl, below_drewN (Below.refl _ _)⟩
set_option maxRecDepth 100000 in
set_option maxHeartbeats 2000000 in
theorem refpowers_any (n : Int) (h0 : 0 ≤ n) (h9 : n < 18446744073709551616) (w : World) :
    Calls Try.prog 68 #[.int .u64 n] w fun e w' => ∃ v, e = .returned v ∧ w'.ownsRow w.heap.size 22 1 v (powI n).length (numV (powI n)) ∧ Below w.heap.size w w' := by
  obtain ⟨i0, hi, hz0, hz1, hz2⟩ := info_parts info_u64
  have HALL := Lib.hid (restI_all n h9)
  have HREST : Hid (∀ k, k < 64 → (2 ^ k ≤ n.toNat % 2 ^ (k + 1) → restI (k + 1) n = pow2 k :: restI k n) ∧ (¬ 2 ^ k ≤ n.toNat % 2 ^ (k + 1) → restI (k + 1) n = restI k n)) := Lib.hid (fun k _ => ⟨restI_yes, restI_no⟩)
  have HN : Hid (n = ((n.toNat % 2 ^ 64 : Nat) : Int)) := Lib.hid (by rw [Nat.mod_eq_of_lt (by omega)]; omega)
  have hlen := powI_len n
  obtain ⟨L, hL⟩ : ∃ L, powI n = L := ⟨_, rfl⟩
  rw [hL] at HALL hlen ⊢
  have HLEN := Lib.hid hlen
  clear hL hlen
  go_enter Try.func68, Try.ntmps68
  go_wp2
  go_loopw [0, 3, 4] (fun s lv p wr => ∃ (k : Nat) (r P : Int) (O : List Int), s = .int .u64 r ∧ p = .int .u64 P ∧ k ≤ 64 ∧ 0 ≤ r ∧ r < 18446744073709551616 ∧ 0 ≤ P ∧ P ≤ 9223372036854775808 ∧ Hid (r = ((n.toNat % 2 ^ k : Nat) : Int)) ∧ Hid (P = atP k) ∧ Hid (O ++ restI k n = L) ∧ wr.ownsRow w.heap.size 22 1 lv O.length (numV O) ∧ Below w.heap.size w wr) (fun _ _ p _ => (intOf p).toNat)
  case atStart => exact ⟨64, n, 9223372036854775808, [], rfl, rfl, Nat.le_refl _, h0, h9, by omega, by omega, HN, Lib.hid pow2_63.symm, HALL, World.ownsRow_nil _ _ _ _, Below.refl _ _⟩
  case round =>
    obtain ⟨k, r, P, O, rfl, rfl, hk, hr0, hr9, hP0, hP9, HR, HP, HO, own, hB⟩ := hrel
    have hbs := hB.size
    have hol : O.length ≤ 64 := by have h := congrArg List.length HO.out; have h2 := HLEN.out; rw [List.length_append] at h; omega
    cases k with
    | zero =>
      obtain rfl : P = 0 := HP.out
      have HE : Hid (O = L) := Lib.hid (by have := HO.out; rwa [restI_zero, List.append_nil] at this)
      go_wp2
      go_ret
      exact ⟨_, rfl, own_congr own (by rw [HE.out]) (by rw [HE.out]), hB⟩
    | succ k =>
      have hpos : 0 < P := by have := HP.out; have := pow2_pos k; simp only [atP] at *; omega
      have hnext : Hid (P / 2 = atP k) := Lib.hid (by
        rw [HP.out]
        cases k with
        | zero => rfl
        | succ j => show pow2 (j + 1) / 2 = pow2 j; rw [pow2_succ]; omega)
      have HM := Lib.hid (mod_next n.toNat k)
      by_cases hge : P ≤ r
      · have hb : 2 ^ k ≤ n.toNat % 2 ^ (k + 1) := by have h1 := HP.out; have h2 := HR.out; simp only [atP, pow2] at h1; omega
        have HQ : Hid (r - P = ((n.toNat % 2 ^ k : Nat) : Int)) := Lib.hid (by have h1 := HP.out; have h2 := HR.out; have h3 := HM.out; rw [if_pos hb] at h3; simp only [atP, pow2] at h1; omega)
        have HO2 : Hid ((O ++ [P]) ++ restI k n = L) := Lib.hid (by have h1 := HO.out; rw [(HREST.out k (by omega)).1 hb] at h1; rw [show P = pow2 k from HP.out]; simpa using h1)
        clear hb
        go_wp2_with (at_builtin; refine wpList_append_lies _ rfl _ _ 84 rfl w.heap.size 22 i0 (.int .u64 0) 1 8 Try.underlying84 hi hz0 hz1 hz2 rfl (by decide) u3 _ _ rfl (own.alloc _) ⟨wr.heap.size, 0, none⟩ 1 1 _ rfl rfl (news_new _ _) (by simp [Value.oneCell']) (by decide) (by unfold maxLen; omega) (by omega) (by simp; omega) _ rfl ?_; intro g3 cap3 w3 hown3 hgrow3 hat3 hlt3)
        go_roundw
        case rel => exact ⟨k, r - P, P / 2, O ++ [P], rfl, rfl, by omega, by omega, by omega, by omega, by omega, HQ, hnext, HO2, own_congr hown3 (by simp) (by simp [numV]), (hB.alloc (by omega) _).grown hgrow3 (by simp; omega) (fun q hq => (own.lt q hq).1)⟩
        case measure => simp [intOf]; omega
      · have hb : ¬ 2 ^ k ≤ n.toNat % 2 ^ (k + 1) := by have h1 := HP.out; have h2 := HR.out; simp only [atP, pow2] at h1; omega
        have HQ : Hid (r = ((n.toNat % 2 ^ k : Nat) : Int)) := Lib.hid (by have h2 := HR.out; have h3 := HM.out; rw [if_neg hb] at h3; omega)
        have HO2 : Hid (O ++ restI k n = L) := Lib.hid (by have h1 := HO.out; rwa [(HREST.out k (by omega)).2 hb] at h1)
        clear hb
        have hlt : r < P := by omega
        clear hge
        go_wp2
        go_roundw
        case rel => exact ⟨k, r, P / 2, O, rfl, rfl, by omega, by omega, by omega, by omega, by omega, HQ, hnext, HO2, own, hB⟩
        case measure => simp [intOf]; omega
theorem rd_take {w : World} {A : Option Addr} {n c k : Nat} {l : List Int} (h : Rd w (.slice A n c) 1 n (numV l)) (hn : l.length = n) (hk : k ≤ n) : Rd w (.slice A k c) 1 k (numV (l.take k)) := by
  obtain ⟨h1, A', cap, e, h3⟩ := h
  cases e
  refine ⟨by simp [numV]; omega, A, c, rfl, ?_⟩
  rcases h3 with h3 | ⟨g, h3, h4⟩
  · exact .inl (by omega)
  · refine .inr ⟨g, h3, fun j u hu => h4 j u ?_⟩
    have hj : j < k := by have := (List.getElem?_eq_some_iff.1 hu).1; simp [numV] at this; omega
    simp only [numV, List.map_take] at hu ⊢
    rwa [List.getElem?_take_of_lt hj] at hu
set_option maxRecDepth 100000 in
set_option maxHeartbeats 4000000 in
theorem powers_walk (n most : Int) (w : World) (h0 : 0 ≤ n) (h9 : n < 18446744073709551616) (m1 : -9223372036854775808 ≤ most) (m2 : most ≤ 9223372036854775807) :
    Calls Try.prog 7 #[.int .u64 n, .int .i64 most] w fun e w' => e = .returned (.bool true) ∧ Below w.heap.size w w' := by
  have HBL := Lib.hid (fun w => below_all n w h0 h9)
  have HRB := Lib.hid (fun w => refbelow_all n w h0 h9)
  have HLG := Lib.hid (fun w => log_all n w h0 h9)
  have HRL := Lib.hid (fun w => reflog_all n w h0 h9)
  obtain ⟨X, hX⟩ : ∃ X, bvI n = X := ⟨_, rfl⟩
  obtain ⟨Y, hY⟩ : ∃ Y, lvI n = Y := ⟨_, rfl⟩
  obtain ⟨bb, hbb⟩ : ∃ b, decide (2 ≤ n) = b := ⟨_, rfl⟩
  obtain ⟨cc, hcc⟩ : ∃ b, decide (1 ≤ n) = b := ⟨_, rfl⟩
  rw [hX, hbb] at HBL HRB
  rw [hY, hcc] at HLG HRL
  clear hX hY hbb hcc
  have HPW := Lib.hid (fun w => powers_any n w)
  have HREF := Lib.hid (fun w => refpowers_any n h0 h9 w)
  have HG := Lib.hid (fun Bn m w h hc h1 h2 => gather_any Bn n m h0 h9 w h hc h1 h2)
  have hlen := powI_len n
  obtain ⟨L, hL⟩ : ∃ L, powI n = L := ⟨_, rfl⟩
  rw [hL] at HREF HG hlen
  obtain ⟨K, hK⟩ : ∃ K, L.length = K := ⟨_, rfl⟩
  rw [hK] at HREF hlen
  have HG65 : Hid (∀ Bn w, Bn < w.heap.size → w.cell? ⟨Bn, 0, none⟩ = some (.int .u64 n) → Calls Try.prog 71 #[.func (.func 74) #[] #[.pointer (some ⟨Bn, 0, none⟩)], .int .i64 65] w fun e W' => ∃ v, e = .returned v ∧ W'.ownsRow w.heap.size 22 1 v K (numV L) ∧ Below w.heap.size w W') := Lib.hid (fun Bn w h hc => by
    have := HG.out Bn 65 w h hc (by omega) (by omega)
    rw [List.take_of_length_le (by show L.length ≤ 65; omega), hK] at this
    exact this)
  have HK := Lib.hid hK
  have hfn := func_nil
  clear hL hK
  go_enter Try.func7, Try.ntmps7
  go_wp2_with (first | (go_at_call 64; refine (HBL.out _).mono ?_; rintro e w' ⟨rfl, rfl⟩) | (go_at_call 65; refine (HRB.out _).mono ?_; rintro e w' ⟨rfl, rfl⟩) | (go_at_call 66; refine (HLG.out _).mono ?_; rintro e w' ⟨rfl, rfl⟩) | (go_at_call 67; refine (HRL.out _).mono ?_; rintro e w' ⟨rfl, rfl⟩) | (go_at_call 19; refine (same_refl _ _ _).mono ?_; rintro e w' ⟨rfl, rfl⟩))
  refine (HREF.out _).mono ?_
  rintro e w1 ⟨v1, rfl, own1, b1⟩
  obtain ⟨A1, c1, rfl, hc1⟩ := own_shape own1
  have R1 := Lib.hid (rd_own own1)
  clear own1
  go_wp2_with fail
  refine (HPW.out _).mono ?_
  rintro e w2 ⟨rfl, e2⟩
  have cb2 : w2.cell? ⟨w1.heap.size, 0, none⟩ = some (.int .u64 n) := by rw [e2]; exact cell_new _ _ 0 _ rfl
  have b2 : Below w1.heap.size w1 w2 := by rw [e2]; exact (Below.refl _ _).alloc (Nat.le_refl _) _
  have hlt2 := block_of_cell cb2
  clear e2
  go_wp2_with fail
  refine (HG65.out _ _ hlt2 cb2).mono ?_
  rintro e w3 ⟨v3, rfl, own3, b3⟩
  obtain ⟨A3, c3, rfl, hc3⟩ := own_shape own3
  have R3 := Lib.hid (rd_own own3)
  clear own3
  go_wp2_with fail
  refine (same_numbers L _ _ K w3 HK.out (by omega) R3.out (R1.out.below (show Gr w1 w3 from (by repeat (first | exact Gr.refl _ | (refine Gr.step ?_ (by assumption)) | (refine Gr.alloc ?_ _) | (refine Gr.drew ?_)))))).mono ?_
  rintro e w4 ⟨rfl, b4⟩
  go_upto_region 12 with fail
  have i0 : Hid ((1 : Int) ≤ most ∨ most < 1) := Lib.hid (by omega)
  by_cases hm1 : most < 1
  · have hd1 : decide (most < 1) = true := by simpa using hm1
    clear hm1
    go_wp2_with fail
    refine wp_region_held_drew (S := Gr w4) (by kernel_rfl) ((Gr.refl _).drew) (fun hHeld => ?_)
    have RW := R1
    have hk65 : (K : Int) < 65 := by omega
    refine wpAnyH_take (i := 0) (v := ?tv1) rfl (by kernel_rfl) (by kernel_rfl) (by kernel_rfl) (fun _ _ _ h => h) (Or.inl ⟨by rfl, ?ty1⟩) (by assumption) ?tr1
    case ty1 => (intro w hSw; (try dsimp only at hSw); go_simp; (try with_reducible rfl))
    try simp only [Act.put, List.getElem_toArray, List.getElem_cons_zero, List.setIfInBounds_toArray, List.set_cons_zero, List.set_cons_succ]
    refine wpAnyH_take (i := 1) (v := ?tv2) rfl (by kernel_rfl) (by kernel_rfl) (by kernel_rfl) (fun _ _ _ h => h) (Or.inl ⟨by rfl, ?ty2⟩) (by assumption) ?tr2
    case ty2 => (intro w hSw; (try dsimp only at hSw); go_simp; (try with_reducible rfl))
    try simp only [Act.put, List.getElem_toArray, List.getElem_cons_zero, List.getElem_cons_succ, List.setIfInBounds_toArray, List.set_cons_zero, List.set_cons_succ]
    refine wpAnyH_take (i := 3) (v := ?tv3) rfl (by kernel_rfl) (by kernel_rfl) (by kernel_rfl) (fun _ _ _ h => h) (Or.inl ⟨by rfl, ?ty3⟩) (by assumption) ?tr3
    case ty3 => (intro w hSw; (try dsimp only at hSw); go_simp; (try with_reducible rfl))
    try simp only [Act.put, List.getElem_toArray, List.getElem_cons_zero, List.getElem_cons_succ, List.setIfInBounds_toArray, List.set_cons_zero, List.set_cons_succ]
    refine wpAnyH_take (i := 4) (v := ?tv4) rfl (by kernel_rfl) (by kernel_rfl) (by kernel_rfl) (fun _ _ _ h => h) (Or.inl ⟨by rfl, ?ty4⟩) (by assumption) ?tr4
    case ty4 => (intro w hSw; (try dsimp only at hSw); go_simp; (try with_reducible rfl))
    try simp only [Act.put, List.getElem_toArray, List.getElem_cons_zero, List.getElem_cons_succ, List.setIfInBounds_toArray, List.set_cons_zero, List.set_cons_succ]
    refine wpAnyH_take (i := 5) (v := ?tv5) rfl (by kernel_rfl) (by kernel_rfl) (by kernel_rfl) (fun _ _ _ h => h) (Or.inl ⟨by rfl, ?ty5⟩) (by assumption) ?tr5
    case ty5 => (intro w hSw; (try dsimp only at hSw); go_simp; (try with_reducible rfl))
    try simp only [Act.put, List.getElem_toArray, List.getElem_cons_zero, List.getElem_cons_succ, List.setIfInBounds_toArray, List.set_cons_zero, List.set_cons_succ]
    refine wpAnyH_take (i := 6) (v := ?tv6) rfl (by kernel_rfl) (by kernel_rfl) (by kernel_rfl) (fun _ _ _ h => h) (Or.inl ⟨by rfl, ?ty6⟩) (by assumption) ?tr6
    case ty6 => (intro w hSw; (try dsimp only at hSw); go_simp; (try with_reducible rfl))
    try simp only [Act.put, List.getElem_toArray, List.getElem_cons_zero, List.getElem_cons_succ, List.setIfInBounds_toArray, List.set_cons_zero, List.set_cons_succ]
    refine wpAnyH_take (i := 7) (v := ?tv7) rfl (by kernel_rfl) (by kernel_rfl) (by kernel_rfl) (fun _ _ _ h => h) (Or.inl ⟨by rfl, ?ty7⟩) (by assumption) ?tr7
    case ty7 => (intro w hSw; (try dsimp only at hSw); go_simp; (try with_reducible rfl))
    try simp only [Act.put, List.getElem_toArray, List.getElem_cons_zero, List.getElem_cons_succ, List.setIfInBounds_toArray, List.set_cons_zero, List.set_cons_succ]
    refine wpAnyH_take (i := 8) (v := ?tv8) rfl (by kernel_rfl) (by kernel_rfl) (by kernel_rfl) (fun _ _ _ h => h) (Or.inl ⟨by rfl, ?ty8⟩) (by assumption) ?tr8
    case ty8 => (intro w hSw; (try dsimp only at hSw); go_simp; (try with_reducible rfl))
    try simp only [Act.put, List.getElem_toArray, List.getElem_cons_zero, List.getElem_cons_succ, List.setIfInBounds_toArray, List.set_cons_zero, List.set_cons_succ]
    refine wpAnyH_ready (rs := [2]) (by kernel_rfl) (by simp) ?_
    refine AllReadyH.cons (i := 2) rfl (fun K2 hK2 => ?_) AllReadyH.nil
    go_simp
    go_at_call 71
    refine (HG65.out _ w4.drew (block_of_cell (cell_below (show Gr w2 w4.drew from (by repeat (first | exact Gr.refl _ | (refine Gr.step ?_ (by assumption)) | (refine Gr.alloc ?_ _) | (refine Gr.drew ?_)))) cb2 hlt2)) (cell_below (show Gr w2 w4.drew from (by repeat (first | exact Gr.refl _ | (refine Gr.step ?_ (by assumption)) | (refine Gr.alloc ?_ _) | (refine Gr.drew ?_)))) cb2 hlt2)).mono ?_
    rintro ev w101 ⟨v101, rfl, own101, b101⟩
    try go_wp2_with fail
    obtain ⟨A101, cp101, rfl, hc101⟩ := own_shape own101; have R101 := Lib.hid (rd_own own101); clear own101
    refine hK2.out _ _ (show Gr w4 _ from (by repeat (first | exact Gr.refl _ | (refine Gr.step ?_ (by assumption)) | (refine Gr.alloc ?_ _) | (refine Gr.drew ?_)))) (fun hHeld2 => ?_)
    clear hK2 K2
    try simp only [Act.put, List.getElem_toArray, List.getElem_cons_zero, List.getElem_cons_succ, List.setIfInBounds_toArray, List.set_cons_zero, List.set_cons_succ]
    refine wpAnyH_ready (rs := [9]) (by kernel_rfl) (by simp) ?_
    refine AllReadyH.cons (i := 9) rfl (fun K2 hK2 => ?_) AllReadyH.nil
    go_simp
    go_at_call 70
    refine (same_numbers L _ _ K w101 HK.out (by omega) (R101.out.below (show Gr w101 w101 from (by repeat (first | exact Gr.refl _ | (refine Gr.step ?_ (by assumption)) | (refine Gr.alloc ?_ _) | (refine Gr.drew ?_))))) (RW.out.below (show Gr w1 w101 from (by repeat (first | exact Gr.refl _ | (refine Gr.step ?_ (by assumption)) | (refine Gr.alloc ?_ _) | (refine Gr.drew ?_)))))).mono ?_
    rintro ev w102 ⟨rfl, b102⟩
    try go_wp2_with fail
    refine hK2.out _ _ (show Gr w4 _ from (by repeat (first | exact Gr.refl _ | (refine Gr.step ?_ (by assumption)) | (refine Gr.alloc ?_ _) | (refine Gr.drew ?_)))) (fun hHeld2 => ?_)
    clear hK2 K2
    try simp only [Act.put, List.getElem_toArray, List.getElem_cons_zero, List.getElem_cons_succ, List.setIfInBounds_toArray, List.set_cons_zero, List.set_cons_succ]
    refine wpAnyH_take (i := 10) (v := ?tv9) rfl (by kernel_rfl) (by kernel_rfl) (by kernel_rfl) (fun _ _ _ h => h) (Or.inl ⟨by rfl, ?ty9⟩) (by assumption) ?tr9
    case ty9 => (intro w hSw; (try dsimp only at hSw); go_simp; (try with_reducible rfl))
    try simp only [Act.put, List.getElem_toArray, List.getElem_cons_zero, List.getElem_cons_succ, List.setIfInBounds_toArray, List.set_cons_zero, List.set_cons_succ]
    refine wpAnyH_take (i := 11) (v := ?tv10) rfl (by kernel_rfl) (by kernel_rfl) (by kernel_rfl) (fun _ _ _ h => h) (Or.inl ⟨by rfl, ?ty10⟩) (by assumption) ?tr10
    case ty10 => (intro w hSw; (try dsimp only at hSw); go_simp; (try with_reducible rfl))
    try simp only [Act.put, List.getElem_toArray, List.getElem_cons_zero, List.getElem_cons_succ, List.setIfInBounds_toArray, List.set_cons_zero, List.set_cons_succ]
    refine wpAnyH_take (i := 13) (v := ?tv11) rfl (by kernel_rfl) (by kernel_rfl) (by kernel_rfl) (fun _ _ _ h => h) (Or.inl ⟨by rfl, ?ty11⟩) (by assumption) ?tr11
    case ty11 => (intro w hSw; (try dsimp only at hSw); go_simp; (try with_reducible rfl))
    try simp only [Act.put, List.getElem_toArray, List.getElem_cons_zero, List.getElem_cons_succ, List.setIfInBounds_toArray, List.set_cons_zero, List.set_cons_succ]
    refine wpAnyH_ready (rs := [12]) (by kernel_rfl) (by simp) ?_
    refine AllReadyH.cons (i := 12) rfl (fun K2 hK2 => ?_) AllReadyH.nil
    go_simp
    go_at_call 71
    refine (HG65.out _ w102 (block_of_cell (cell_below (show Gr w2 w102 from (by repeat (first | exact Gr.refl _ | (refine Gr.step ?_ (by assumption)) | (refine Gr.alloc ?_ _) | (refine Gr.drew ?_)))) cb2 hlt2)) (cell_below (show Gr w2 w102 from (by repeat (first | exact Gr.refl _ | (refine Gr.step ?_ (by assumption)) | (refine Gr.alloc ?_ _) | (refine Gr.drew ?_)))) cb2 hlt2)).mono ?_
    rintro ev w103 ⟨v103, rfl, own103, b103⟩
    try go_wp2_with fail
    obtain ⟨A103, cp103, rfl, hc103⟩ := own_shape own103; have R103 := Lib.hid (rd_own own103); clear own103
    refine hK2.out _ _ (show Gr w4 _ from (by repeat (first | exact Gr.refl _ | (refine Gr.step ?_ (by assumption)) | (refine Gr.alloc ?_ _) | (refine Gr.drew ?_)))) (fun hHeld2 => ?_)
    clear hK2 K2
    try simp only [Act.put, List.getElem_toArray, List.getElem_cons_zero, List.getElem_cons_succ, List.setIfInBounds_toArray, List.set_cons_zero, List.set_cons_succ]
    refine wpAnyH_ready (rs := [14]) (by kernel_rfl) (by simp) ?_
    refine AllReadyH.cons (i := 14) rfl (fun K2 hK2 => ?_) AllReadyH.nil
    go_simp
    go_at_call 70
    refine (same_numbers L _ _ K w103 HK.out (by omega) (R103.out.below (show Gr w103 w103 from (by repeat (first | exact Gr.refl _ | (refine Gr.step ?_ (by assumption)) | (refine Gr.alloc ?_ _) | (refine Gr.drew ?_))))) (R1.out.below (show Gr w1 w103 from (by repeat (first | exact Gr.refl _ | (refine Gr.step ?_ (by assumption)) | (refine Gr.alloc ?_ _) | (refine Gr.drew ?_)))))).mono ?_
    rintro ev w104 ⟨rfl, b104⟩
    try go_wp2_with fail
    refine hK2.out _ _ (show Gr w4 _ from (by repeat (first | exact Gr.refl _ | (refine Gr.step ?_ (by assumption)) | (refine Gr.alloc ?_ _) | (refine Gr.drew ?_)))) (fun hHeld2 => ?_)
    clear hK2 K2
    try simp only [Act.put, List.getElem_toArray, List.getElem_cons_zero, List.getElem_cons_succ, List.setIfInBounds_toArray, List.set_cons_zero, List.set_cons_succ]
    refine wpAnyH_take (i := 15) (v := ?tv12) rfl (by kernel_rfl) (by kernel_rfl) (by kernel_rfl) (fun _ _ _ h => h) (Or.inl ⟨by rfl, ?ty12⟩) (by assumption) ?tr12
    case ty12 => (intro w hSw; (try dsimp only at hSw); go_simp; (try with_reducible rfl))
    try simp only [Act.put, List.getElem_toArray, List.getElem_cons_zero, List.getElem_cons_succ, List.setIfInBounds_toArray, List.set_cons_zero, List.set_cons_succ]
    refine wpAnyH_take (i := 16) (v := ?tv13) rfl (by kernel_rfl) (by kernel_rfl) (by kernel_rfl) (fun _ _ _ h => h) (Or.inl ⟨by rfl, ?ty13⟩) (by assumption) ?tr13
    case ty13 => (intro w hSw; (try dsimp only at hSw); go_simp; (try with_reducible rfl))
    try simp only [Act.put, List.getElem_toArray, List.getElem_cons_zero, List.getElem_cons_succ, List.setIfInBounds_toArray, List.set_cons_zero, List.set_cons_succ]
    refine wpAnyH_done (by kernel_rfl) ?_ _
    go_wp2
    go_ret
    exact ⟨rfl, show Gr w _ from (by repeat (first | exact Gr.refl _ | (refine Gr.step ?_ (by assumption)) | (refine Gr.alloc ?_ _) | (refine Gr.drew ?_)))⟩
  · have hd1 : decide (most < 1) = false := by simpa using hm1
    by_cases hm2 : (K : Int) < most
    · have hd2 : decide ((K : Int) < most) = true := by simpa using hm2
      clear hm1 hm2
      go_wp2_with fail
      refine wp_region_held_drew (S := Gr w4) (by kernel_rfl) ((Gr.refl _).drew) (fun hHeld => ?_)
      have RW := R1
      have hk65 : (K : Int) < 65 := by omega
      refine wpAnyH_take (i := 0) (v := ?tv14) rfl (by kernel_rfl) (by kernel_rfl) (by kernel_rfl) (fun _ _ _ h => h) (Or.inl ⟨by rfl, ?ty14⟩) (by assumption) ?tr14
      case ty14 => (intro w hSw; (try dsimp only at hSw); go_simp; (try with_reducible rfl))
      try simp only [Act.put, List.getElem_toArray, List.getElem_cons_zero, List.setIfInBounds_toArray, List.set_cons_zero, List.set_cons_succ]
      refine wpAnyH_take (i := 1) (v := ?tv15) rfl (by kernel_rfl) (by kernel_rfl) (by kernel_rfl) (fun _ _ _ h => h) (Or.inl ⟨by rfl, ?ty15⟩) (by assumption) ?tr15
      case ty15 => (intro w hSw; (try dsimp only at hSw); go_simp; (try with_reducible rfl))
      try simp only [Act.put, List.getElem_toArray, List.getElem_cons_zero, List.getElem_cons_succ, List.setIfInBounds_toArray, List.set_cons_zero, List.set_cons_succ]
      refine wpAnyH_take (i := 3) (v := ?tv16) rfl (by kernel_rfl) (by kernel_rfl) (by kernel_rfl) (fun _ _ _ h => h) (Or.inl ⟨by rfl, ?ty16⟩) (by assumption) ?tr16
      case ty16 => (intro w hSw; (try dsimp only at hSw); go_simp; (try with_reducible rfl))
      try simp only [Act.put, List.getElem_toArray, List.getElem_cons_zero, List.getElem_cons_succ, List.setIfInBounds_toArray, List.set_cons_zero, List.set_cons_succ]
      refine wpAnyH_take (i := 4) (v := ?tv17) rfl (by kernel_rfl) (by kernel_rfl) (by kernel_rfl) (fun _ _ _ h => h) (Or.inl ⟨by rfl, ?ty17⟩) (by assumption) ?tr17
      case ty17 => (intro w hSw; (try dsimp only at hSw); go_simp; (try with_reducible rfl))
      try simp only [Act.put, List.getElem_toArray, List.getElem_cons_zero, List.getElem_cons_succ, List.setIfInBounds_toArray, List.set_cons_zero, List.set_cons_succ]
      refine wpAnyH_take (i := 5) (v := ?tv18) rfl (by kernel_rfl) (by kernel_rfl) (by kernel_rfl) (fun _ _ _ h => h) (Or.inl ⟨by rfl, ?ty18⟩) (by assumption) ?tr18
      case ty18 => (intro w hSw; (try dsimp only at hSw); go_simp; (try with_reducible rfl))
      try simp only [Act.put, List.getElem_toArray, List.getElem_cons_zero, List.getElem_cons_succ, List.setIfInBounds_toArray, List.set_cons_zero, List.set_cons_succ]
      refine wpAnyH_take (i := 6) (v := ?tv19) rfl (by kernel_rfl) (by kernel_rfl) (by kernel_rfl) (fun _ _ _ h => h) (Or.inl ⟨by rfl, ?ty19⟩) (by assumption) ?tr19
      case ty19 => (intro w hSw; (try dsimp only at hSw); go_simp; (try with_reducible rfl))
      try simp only [Act.put, List.getElem_toArray, List.getElem_cons_zero, List.getElem_cons_succ, List.setIfInBounds_toArray, List.set_cons_zero, List.set_cons_succ]
      refine wpAnyH_take (i := 7) (v := ?tv20) rfl (by kernel_rfl) (by kernel_rfl) (by kernel_rfl) (fun _ _ _ h => h) (Or.inl ⟨by rfl, ?ty20⟩) (by assumption) ?tr20
      case ty20 => (intro w hSw; (try dsimp only at hSw); go_simp; (try with_reducible rfl))
      try simp only [Act.put, List.getElem_toArray, List.getElem_cons_zero, List.getElem_cons_succ, List.setIfInBounds_toArray, List.set_cons_zero, List.set_cons_succ]
      refine wpAnyH_take (i := 8) (v := ?tv21) rfl (by kernel_rfl) (by kernel_rfl) (by kernel_rfl) (fun _ _ _ h => h) (Or.inl ⟨by rfl, ?ty21⟩) (by assumption) ?tr21
      case ty21 => (intro w hSw; (try dsimp only at hSw); go_simp; (try with_reducible rfl))
      try simp only [Act.put, List.getElem_toArray, List.getElem_cons_zero, List.getElem_cons_succ, List.setIfInBounds_toArray, List.set_cons_zero, List.set_cons_succ]
      refine wpAnyH_ready (rs := [2]) (by kernel_rfl) (by simp) ?_
      refine AllReadyH.cons (i := 2) rfl (fun K2 hK2 => ?_) AllReadyH.nil
      go_simp
      go_at_call 71
      refine (HG65.out _ w4.drew (block_of_cell (cell_below (show Gr w2 w4.drew from (by repeat (first | exact Gr.refl _ | (refine Gr.step ?_ (by assumption)) | (refine Gr.alloc ?_ _) | (refine Gr.drew ?_)))) cb2 hlt2)) (cell_below (show Gr w2 w4.drew from (by repeat (first | exact Gr.refl _ | (refine Gr.step ?_ (by assumption)) | (refine Gr.alloc ?_ _) | (refine Gr.drew ?_)))) cb2 hlt2)).mono ?_
      rintro ev w105 ⟨v105, rfl, own105, b105⟩
      try go_wp2_with fail
      obtain ⟨A105, cp105, rfl, hc105⟩ := own_shape own105; have R105 := Lib.hid (rd_own own105); clear own105
      refine hK2.out _ _ (show Gr w4 _ from (by repeat (first | exact Gr.refl _ | (refine Gr.step ?_ (by assumption)) | (refine Gr.alloc ?_ _) | (refine Gr.drew ?_)))) (fun hHeld2 => ?_)
      clear hK2 K2
      try simp only [Act.put, List.getElem_toArray, List.getElem_cons_zero, List.getElem_cons_succ, List.setIfInBounds_toArray, List.set_cons_zero, List.set_cons_succ]
      refine wpAnyH_ready (rs := [9]) (by kernel_rfl) (by simp) ?_
      refine AllReadyH.cons (i := 9) rfl (fun K2 hK2 => ?_) AllReadyH.nil
      go_simp
      go_at_call 70
      refine (same_numbers L _ _ K w105 HK.out (by omega) (R105.out.below (show Gr w105 w105 from (by repeat (first | exact Gr.refl _ | (refine Gr.step ?_ (by assumption)) | (refine Gr.alloc ?_ _) | (refine Gr.drew ?_))))) (RW.out.below (show Gr w1 w105 from (by repeat (first | exact Gr.refl _ | (refine Gr.step ?_ (by assumption)) | (refine Gr.alloc ?_ _) | (refine Gr.drew ?_)))))).mono ?_
      rintro ev w106 ⟨rfl, b106⟩
      try go_wp2_with fail
      refine hK2.out _ _ (show Gr w4 _ from (by repeat (first | exact Gr.refl _ | (refine Gr.step ?_ (by assumption)) | (refine Gr.alloc ?_ _) | (refine Gr.drew ?_)))) (fun hHeld2 => ?_)
      clear hK2 K2
      try simp only [Act.put, List.getElem_toArray, List.getElem_cons_zero, List.getElem_cons_succ, List.setIfInBounds_toArray, List.set_cons_zero, List.set_cons_succ]
      refine wpAnyH_take (i := 10) (v := ?tv22) rfl (by kernel_rfl) (by kernel_rfl) (by kernel_rfl) (fun _ _ _ h => h) (Or.inl ⟨by rfl, ?ty22⟩) (by assumption) ?tr22
      case ty22 => (intro w hSw; (try dsimp only at hSw); go_simp; (try with_reducible rfl))
      try simp only [Act.put, List.getElem_toArray, List.getElem_cons_zero, List.getElem_cons_succ, List.setIfInBounds_toArray, List.set_cons_zero, List.set_cons_succ]
      refine wpAnyH_take (i := 11) (v := ?tv23) rfl (by kernel_rfl) (by kernel_rfl) (by kernel_rfl) (fun _ _ _ h => h) (Or.inl ⟨by rfl, ?ty23⟩) (by assumption) ?tr23
      case ty23 => (intro w hSw; (try dsimp only at hSw); go_simp; (try with_reducible rfl))
      try simp only [Act.put, List.getElem_toArray, List.getElem_cons_zero, List.getElem_cons_succ, List.setIfInBounds_toArray, List.set_cons_zero, List.set_cons_succ]
      refine wpAnyH_take (i := 13) (v := ?tv24) rfl (by kernel_rfl) (by kernel_rfl) (by kernel_rfl) (fun _ _ _ h => h) (Or.inl ⟨by rfl, ?ty24⟩) (by assumption) ?tr24
      case ty24 => (intro w hSw; (try dsimp only at hSw); go_simp; (try with_reducible rfl))
      try simp only [Act.put, List.getElem_toArray, List.getElem_cons_zero, List.getElem_cons_succ, List.setIfInBounds_toArray, List.set_cons_zero, List.set_cons_succ]
      refine wpAnyH_ready (rs := [12]) (by kernel_rfl) (by simp) ?_
      refine AllReadyH.cons (i := 12) rfl (fun K2 hK2 => ?_) AllReadyH.nil
      go_simp
      go_at_call 71
      refine (HG65.out _ w106 (block_of_cell (cell_below (show Gr w2 w106 from (by repeat (first | exact Gr.refl _ | (refine Gr.step ?_ (by assumption)) | (refine Gr.alloc ?_ _) | (refine Gr.drew ?_)))) cb2 hlt2)) (cell_below (show Gr w2 w106 from (by repeat (first | exact Gr.refl _ | (refine Gr.step ?_ (by assumption)) | (refine Gr.alloc ?_ _) | (refine Gr.drew ?_)))) cb2 hlt2)).mono ?_
      rintro ev w107 ⟨v107, rfl, own107, b107⟩
      try go_wp2_with fail
      obtain ⟨A107, cp107, rfl, hc107⟩ := own_shape own107; have R107 := Lib.hid (rd_own own107); clear own107
      refine hK2.out _ _ (show Gr w4 _ from (by repeat (first | exact Gr.refl _ | (refine Gr.step ?_ (by assumption)) | (refine Gr.alloc ?_ _) | (refine Gr.drew ?_)))) (fun hHeld2 => ?_)
      clear hK2 K2
      try simp only [Act.put, List.getElem_toArray, List.getElem_cons_zero, List.getElem_cons_succ, List.setIfInBounds_toArray, List.set_cons_zero, List.set_cons_succ]
      refine wpAnyH_ready (rs := [14]) (by kernel_rfl) (by simp) ?_
      refine AllReadyH.cons (i := 14) rfl (fun K2 hK2 => ?_) AllReadyH.nil
      go_simp
      go_at_call 70
      refine (same_numbers L _ _ K w107 HK.out (by omega) (R107.out.below (show Gr w107 w107 from (by repeat (first | exact Gr.refl _ | (refine Gr.step ?_ (by assumption)) | (refine Gr.alloc ?_ _) | (refine Gr.drew ?_))))) (R1.out.below (show Gr w1 w107 from (by repeat (first | exact Gr.refl _ | (refine Gr.step ?_ (by assumption)) | (refine Gr.alloc ?_ _) | (refine Gr.drew ?_)))))).mono ?_
      rintro ev w108 ⟨rfl, b108⟩
      try go_wp2_with fail
      refine hK2.out _ _ (show Gr w4 _ from (by repeat (first | exact Gr.refl _ | (refine Gr.step ?_ (by assumption)) | (refine Gr.alloc ?_ _) | (refine Gr.drew ?_)))) (fun hHeld2 => ?_)
      clear hK2 K2
      try simp only [Act.put, List.getElem_toArray, List.getElem_cons_zero, List.getElem_cons_succ, List.setIfInBounds_toArray, List.set_cons_zero, List.set_cons_succ]
      refine wpAnyH_take (i := 15) (v := ?tv25) rfl (by kernel_rfl) (by kernel_rfl) (by kernel_rfl) (fun _ _ _ h => h) (Or.inl ⟨by rfl, ?ty25⟩) (by assumption) ?tr25
      case ty25 => (intro w hSw; (try dsimp only at hSw); go_simp; (try with_reducible rfl))
      try simp only [Act.put, List.getElem_toArray, List.getElem_cons_zero, List.getElem_cons_succ, List.setIfInBounds_toArray, List.set_cons_zero, List.set_cons_succ]
      refine wpAnyH_take (i := 16) (v := ?tv26) rfl (by kernel_rfl) (by kernel_rfl) (by kernel_rfl) (fun _ _ _ h => h) (Or.inl ⟨by rfl, ?ty26⟩) (by assumption) ?tr26
      case ty26 => (intro w hSw; (try dsimp only at hSw); go_simp; (try with_reducible rfl))
      try simp only [Act.put, List.getElem_toArray, List.getElem_cons_zero, List.getElem_cons_succ, List.setIfInBounds_toArray, List.set_cons_zero, List.set_cons_succ]
      refine wpAnyH_done (by kernel_rfl) ?_ _
      go_wp2
      go_ret
      exact ⟨rfl, show Gr w _ from (by repeat (first | exact Gr.refl _ | (refine Gr.step ?_ (by assumption)) | (refine Gr.alloc ?_ _) | (refine Gr.drew ?_)))⟩
    · have hd2 : decide ((K : Int) < most) = false := by simpa using hm2
      obtain ⟨k, rfl⟩ : ∃ k : Nat, most = k := ⟨most.toNat, by omega⟩
      have hkK : k ≤ K := by omega
      have hk1 : (1 : Int) ≤ k := by omega
      clear hm1 hm2
      go_wp2_with fail
      refine wp_region_held_drew (S := Gr w4) (by kernel_rfl) ((Gr.refl _).drew) (fun hHeld => ?_)
      have hkc : k ≤ c1 := by omega
      have HK2 : Hid ((L.take k).length = k) := Lib.hid (by rw [List.length_take, HK.out]; omega)
      have RW := Lib.hid (rd_take R1.out HK.out hkK)
      have HGk : Hid (∀ Bn w, Bn < w.heap.size → w.cell? ⟨Bn, 0, none⟩ = some (.int .u64 n) → Calls Try.prog 71 #[.func (.func 74) #[] #[.pointer (some ⟨Bn, 0, none⟩)], .int .i64 k] w fun e W' => ∃ v, e = .returned v ∧ W'.ownsRow w.heap.size 22 1 v k (numV (L.take k)) ∧ Below w.heap.size w W') := Lib.hid (fun Bn w h hc => by
        have := HG.out Bn k w h hc (by omega) (by omega)
        rw [Int.toNat_natCast, HK2.out] at this
        exact this)
      refine wpAnyH_take (i := 0) (v := ?tv27) rfl (by kernel_rfl) (by kernel_rfl) (by kernel_rfl) (fun _ _ _ h => h) (Or.inl ⟨by rfl, ?ty27⟩) (by assumption) ?tr27
      case ty27 => (intro w hSw; (try dsimp only at hSw); go_simp; (try with_reducible rfl))
      try simp only [Act.put, List.getElem_toArray, List.getElem_cons_zero, List.setIfInBounds_toArray, List.set_cons_zero, List.set_cons_succ]
      refine wpAnyH_take (i := 1) (v := ?tv28) rfl (by kernel_rfl) (by kernel_rfl) (by kernel_rfl) (fun _ _ _ h => h) (Or.inl ⟨by rfl, ?ty28⟩) (by assumption) ?tr28
      case ty28 => (intro w hSw; (try dsimp only at hSw); go_simp; (try with_reducible rfl))
      try simp only [Act.put, List.getElem_toArray, List.getElem_cons_zero, List.getElem_cons_succ, List.setIfInBounds_toArray, List.set_cons_zero, List.set_cons_succ]
      refine wpAnyH_take (i := 3) (v := ?tv29) rfl (by kernel_rfl) (by kernel_rfl) (by kernel_rfl) (fun _ _ _ h => h) (Or.inl ⟨by rfl, ?ty29⟩) (by assumption) ?tr29
      case ty29 => (intro w hSw; (try dsimp only at hSw); go_simp; (try with_reducible rfl))
      try simp only [Act.put, List.getElem_toArray, List.getElem_cons_zero, List.getElem_cons_succ, List.setIfInBounds_toArray, List.set_cons_zero, List.set_cons_succ]
      refine wpAnyH_take (i := 4) (v := ?tv30) rfl (by kernel_rfl) (by kernel_rfl) (by kernel_rfl) (fun _ _ _ h => h) (Or.inl ⟨by rfl, ?ty30⟩) (by assumption) ?tr30
      case ty30 => (intro w hSw; (try dsimp only at hSw); go_simp; (try with_reducible rfl))
      try simp only [Act.put, List.getElem_toArray, List.getElem_cons_zero, List.getElem_cons_succ, List.setIfInBounds_toArray, List.set_cons_zero, List.set_cons_succ]
      refine wpAnyH_take (i := 5) (v := ?tv31) rfl (by kernel_rfl) (by kernel_rfl) (by kernel_rfl) (fun _ _ _ h => h) (Or.inl ⟨by rfl, ?ty31⟩) (by assumption) ?tr31
      case ty31 => (intro w hSw; (try dsimp only at hSw); go_simp; (try with_reducible rfl))
      try simp only [Act.put, List.getElem_toArray, List.getElem_cons_zero, List.getElem_cons_succ, List.setIfInBounds_toArray, List.set_cons_zero, List.set_cons_succ]
      refine wpAnyH_take (i := 6) (v := ?tv32) rfl (by kernel_rfl) (by kernel_rfl) (by kernel_rfl) (fun _ _ _ h => h) (Or.inl ⟨by rfl, ?ty32⟩) (by assumption) ?tr32
      case ty32 => (intro w hSw; (try dsimp only at hSw); go_simp; (try with_reducible rfl))
      try simp only [Act.put, List.getElem_toArray, List.getElem_cons_zero, List.getElem_cons_succ, List.setIfInBounds_toArray, List.set_cons_zero, List.set_cons_succ]
      refine wpAnyH_take (i := 7) (v := ?tv33) rfl (by kernel_rfl) (by kernel_rfl) (by kernel_rfl) (fun _ _ _ h => h) (Or.inl ⟨by rfl, ?ty33⟩) (by assumption) ?tr33
      case ty33 => (intro w hSw; (try dsimp only at hSw); go_simp; (try with_reducible rfl))
      try simp only [Act.put, List.getElem_toArray, List.getElem_cons_zero, List.getElem_cons_succ, List.setIfInBounds_toArray, List.set_cons_zero, List.set_cons_succ]
      refine wpAnyH_take (i := 8) (v := ?tv34) rfl (by kernel_rfl) (by kernel_rfl) (by kernel_rfl) (fun _ _ _ h => h) (Or.inl ⟨by rfl, ?ty34⟩) (by assumption) ?tr34
      case ty34 => (intro w hSw; (try dsimp only at hSw); go_simp; (try with_reducible rfl))
      try simp only [Act.put, List.getElem_toArray, List.getElem_cons_zero, List.getElem_cons_succ, List.setIfInBounds_toArray, List.set_cons_zero, List.set_cons_succ]
      refine wpAnyH_ready (rs := [2]) (by kernel_rfl) (by simp) ?_
      refine AllReadyH.cons (i := 2) rfl (fun K2 hK2 => ?_) AllReadyH.nil
      go_simp
      go_at_call 71
      refine (HGk.out _ w4.drew (block_of_cell (cell_below (show Gr w2 w4.drew from (by repeat (first | exact Gr.refl _ | (refine Gr.step ?_ (by assumption)) | (refine Gr.alloc ?_ _) | (refine Gr.drew ?_)))) cb2 hlt2)) (cell_below (show Gr w2 w4.drew from (by repeat (first | exact Gr.refl _ | (refine Gr.step ?_ (by assumption)) | (refine Gr.alloc ?_ _) | (refine Gr.drew ?_)))) cb2 hlt2)).mono ?_
      rintro ev w109 ⟨v109, rfl, own109, b109⟩
      try go_wp2_with fail
      obtain ⟨A109, cp109, rfl, hc109⟩ := own_shape own109; have R109 := Lib.hid (rd_own own109); clear own109
      refine hK2.out _ _ (show Gr w4 _ from (by repeat (first | exact Gr.refl _ | (refine Gr.step ?_ (by assumption)) | (refine Gr.alloc ?_ _) | (refine Gr.drew ?_)))) (fun hHeld2 => ?_)
      clear hK2 K2
      try simp only [Act.put, List.getElem_toArray, List.getElem_cons_zero, List.getElem_cons_succ, List.setIfInBounds_toArray, List.set_cons_zero, List.set_cons_succ]
      refine wpAnyH_ready (rs := [9]) (by kernel_rfl) (by simp) ?_
      refine AllReadyH.cons (i := 9) rfl (fun K2 hK2 => ?_) AllReadyH.nil
      go_simp
      go_at_call 70
      refine (same_numbers (L.take k) _ _ k w109 HK2.out (by omega) (R109.out.below (show Gr w109 w109 from (by repeat (first | exact Gr.refl _ | (refine Gr.step ?_ (by assumption)) | (refine Gr.alloc ?_ _) | (refine Gr.drew ?_))))) (RW.out.below (show Gr w1 w109 from (by repeat (first | exact Gr.refl _ | (refine Gr.step ?_ (by assumption)) | (refine Gr.alloc ?_ _) | (refine Gr.drew ?_)))))).mono ?_
      rintro ev w110 ⟨rfl, b110⟩
      try go_wp2_with fail
      refine hK2.out _ _ (show Gr w4 _ from (by repeat (first | exact Gr.refl _ | (refine Gr.step ?_ (by assumption)) | (refine Gr.alloc ?_ _) | (refine Gr.drew ?_)))) (fun hHeld2 => ?_)
      clear hK2 K2
      try simp only [Act.put, List.getElem_toArray, List.getElem_cons_zero, List.getElem_cons_succ, List.setIfInBounds_toArray, List.set_cons_zero, List.set_cons_succ]
      refine wpAnyH_take (i := 10) (v := ?tv35) rfl (by kernel_rfl) (by kernel_rfl) (by kernel_rfl) (fun _ _ _ h => h) (Or.inl ⟨by rfl, ?ty35⟩) (by assumption) ?tr35
      case ty35 => (intro w hSw; (try dsimp only at hSw); go_simp; (try with_reducible rfl))
      try simp only [Act.put, List.getElem_toArray, List.getElem_cons_zero, List.getElem_cons_succ, List.setIfInBounds_toArray, List.set_cons_zero, List.set_cons_succ]
      refine wpAnyH_take (i := 11) (v := ?tv36) rfl (by kernel_rfl) (by kernel_rfl) (by kernel_rfl) (fun _ _ _ h => h) (Or.inl ⟨by rfl, ?ty36⟩) (by assumption) ?tr36
      case ty36 => (intro w hSw; (try dsimp only at hSw); go_simp; (try with_reducible rfl))
      try simp only [Act.put, List.getElem_toArray, List.getElem_cons_zero, List.getElem_cons_succ, List.setIfInBounds_toArray, List.set_cons_zero, List.set_cons_succ]
      refine wpAnyH_take (i := 13) (v := ?tv37) rfl (by kernel_rfl) (by kernel_rfl) (by kernel_rfl) (fun _ _ _ h => h) (Or.inl ⟨by rfl, ?ty37⟩) (by assumption) ?tr37
      case ty37 => (intro w hSw; (try dsimp only at hSw); go_simp; (try with_reducible rfl))
      try simp only [Act.put, List.getElem_toArray, List.getElem_cons_zero, List.getElem_cons_succ, List.setIfInBounds_toArray, List.set_cons_zero, List.set_cons_succ]
      refine wpAnyH_ready (rs := [12]) (by kernel_rfl) (by simp) ?_
      refine AllReadyH.cons (i := 12) rfl (fun K2 hK2 => ?_) AllReadyH.nil
      go_simp
      go_at_call 71
      refine (HG65.out _ w110 (block_of_cell (cell_below (show Gr w2 w110 from (by repeat (first | exact Gr.refl _ | (refine Gr.step ?_ (by assumption)) | (refine Gr.alloc ?_ _) | (refine Gr.drew ?_)))) cb2 hlt2)) (cell_below (show Gr w2 w110 from (by repeat (first | exact Gr.refl _ | (refine Gr.step ?_ (by assumption)) | (refine Gr.alloc ?_ _) | (refine Gr.drew ?_)))) cb2 hlt2)).mono ?_
      rintro ev w111 ⟨v111, rfl, own111, b111⟩
      try go_wp2_with fail
      obtain ⟨A111, cp111, rfl, hc111⟩ := own_shape own111; have R111 := Lib.hid (rd_own own111); clear own111
      refine hK2.out _ _ (show Gr w4 _ from (by repeat (first | exact Gr.refl _ | (refine Gr.step ?_ (by assumption)) | (refine Gr.alloc ?_ _) | (refine Gr.drew ?_)))) (fun hHeld2 => ?_)
      clear hK2 K2
      try simp only [Act.put, List.getElem_toArray, List.getElem_cons_zero, List.getElem_cons_succ, List.setIfInBounds_toArray, List.set_cons_zero, List.set_cons_succ]
      refine wpAnyH_ready (rs := [14]) (by kernel_rfl) (by simp) ?_
      refine AllReadyH.cons (i := 14) rfl (fun K2 hK2 => ?_) AllReadyH.nil
      go_simp
      go_at_call 70
      refine (same_numbers L _ _ K w111 HK.out (by omega) (R111.out.below (show Gr w111 w111 from (by repeat (first | exact Gr.refl _ | (refine Gr.step ?_ (by assumption)) | (refine Gr.alloc ?_ _) | (refine Gr.drew ?_))))) (R1.out.below (show Gr w1 w111 from (by repeat (first | exact Gr.refl _ | (refine Gr.step ?_ (by assumption)) | (refine Gr.alloc ?_ _) | (refine Gr.drew ?_)))))).mono ?_
      rintro ev w112 ⟨rfl, b112⟩
      try go_wp2_with fail
      refine hK2.out _ _ (show Gr w4 _ from (by repeat (first | exact Gr.refl _ | (refine Gr.step ?_ (by assumption)) | (refine Gr.alloc ?_ _) | (refine Gr.drew ?_)))) (fun hHeld2 => ?_)
      clear hK2 K2
      try simp only [Act.put, List.getElem_toArray, List.getElem_cons_zero, List.getElem_cons_succ, List.setIfInBounds_toArray, List.set_cons_zero, List.set_cons_succ]
      refine wpAnyH_take (i := 15) (v := ?tv38) rfl (by kernel_rfl) (by kernel_rfl) (by kernel_rfl) (fun _ _ _ h => h) (Or.inl ⟨by rfl, ?ty38⟩) (by assumption) ?tr38
      case ty38 => (intro w hSw; (try dsimp only at hSw); go_simp; (try with_reducible rfl))
      try simp only [Act.put, List.getElem_toArray, List.getElem_cons_zero, List.getElem_cons_succ, List.setIfInBounds_toArray, List.set_cons_zero, List.set_cons_succ]
      refine wpAnyH_take (i := 16) (v := ?tv39) rfl (by kernel_rfl) (by kernel_rfl) (by kernel_rfl) (fun _ _ _ h => h) (Or.inl ⟨by rfl, ?ty39⟩) (by assumption) ?tr39
      case ty39 => (intro w hSw; (try dsimp only at hSw); go_simp; (try with_reducible rfl))
      try simp only [Act.put, List.getElem_toArray, List.getElem_cons_zero, List.getElem_cons_succ, List.setIfInBounds_toArray, List.set_cons_zero, List.set_cons_succ]
      refine wpAnyH_done (by kernel_rfl) ?_ _
      go_wp2
      go_ret
      exact ⟨rfl, show Gr w _ from (by repeat (first | exact Gr.refl _ | (refine Gr.step ?_ (by assumption)) | (refine Gr.alloc ?_ _) | (refine Gr.drew ?_)))⟩
end Go.Proofs.Ytaekhijmnbeahaa
