import Derived.Test.YtnpblpbcchminaaGreatDoorMem
import Derived.Test.YtnpblpbcchminaaGreatDoorRefNode
import Derived.Test.YtnpblpbcchminaaGreatDoorSayPlain
import Derived.Test.YtnpblpbcchminaaGreatDoorShapePath
import Derived.Test.YtnpblpbcchminaaGreatDoorSameHashes
import Derived.Deep.MidRow
import Derived.BigRegion
import Derived.Deep.DeepCutAuto
/- cartularyref18.Half, Long, Steps, says: what a path says. No condition. -/
namespace Go.Proofs.YtnpblpbcchminaaGreatDoor
open Go.ChangeShapes Go.WideShapes Go.ChangeAt Go.RowKit
set_option linter.unusedVariables false
theorem half18 (n : Int) (w : World) (h2 : 2 ≤ n) (hn : n ≤ 9223372036854775808) : Calls Tryz.prog 195 #[.int .u64 n] w fun ev w' => ev = .returned (.int .u64 (blwI n)) ∧ w = w' := by
  go_enter Tryz.func195, Tryz.ntmps195
  go_wp2
  go_loop [3] (fun i => ∃ (k : Int), 1 ≤ k ∧ k < n ∧ i = .int .u64 k ∧ Hid (∃ e : Nat, k = ((2 ^ e : Nat) : Int))) (fun i => (n - intOf i).toNat)
  case atStart => exact ⟨1, by omega, by omega, rfl, Lib.hid ⟨0, rfl⟩⟩
  case round =>
    obtain ⟨k, h1, hkx, rfl, HE⟩ := hrel
    by_cases hlt : k < n - k
    · have HE2 : Hid (∃ e : Nat, k * 2 = ((2 ^ e : Nat) : Int)) := Lib.hid (by obtain ⟨e, he⟩ := HE.out; exact ⟨e + 1, by rw [he, Nat.pow_succ]; omega⟩)
      go_wp2
      go_round
      case rel => exact ⟨k * 2, by omega, by omega, by go_num, HE2⟩
      case measure => simp [intOf]; omega
    · have HF : Hid (k = blwI n) := Lib.hid (by
        obtain ⟨e, he⟩ := HE.out
        exact blwI_eq (n := n) he hkx (by omega))
      go_wp2
      go_ret
      exact ⟨by rw [← HF.out]; rfl, rfl⟩
theorem long18 (ix sz : Int) (w : World) (h0 : 0 ≤ ix) (h1 : ix < sz) (h2 : sz ≤ 9223372036854775808) : Calls Tryz.prog 132 #[.int .u64 ix, .int .u64 sz] w fun ev w' => ev = .returned (.int .i64 (pathL 64 ix 0 sz).length) ∧ w = w' := by
  obtain ⟨N, hN⟩ : ∃ N, (pathL 64 ix 0 sz).length = N := ⟨_, rfl⟩
  have hN64 := pathL_len 64 ix 0 sz
  rw [hN] at hN64 ⊢
  have HN := Lib.hid hN
  have HI := Lib.hid h1
  clear hN
  go_enter Tryz.func132, Tryz.ntmps132
  go_wp2
  go_loop [0, 1, 5, 6] (fun a s n k => ∃ (x y : Int) (j : Nat), a = .int .u64 x ∧ s = .int .u64 y ∧ n = .int .i64 j ∧ 0 ≤ x ∧ x < y ∧ y ≤ 9223372036854775808 ∧ j ≤ N ∧ Hid (∃ (f : Nat) (b e : Int), x = ix - b ∧ y = e - b ∧ e - b ≤ pow2 f ∧ f ≤ 64 ∧ b ≤ ix ∧ ix < e ∧ j + (pathL f ix b e).length = N)) (fun _ s _ _ => (intOf s).toNat)
  case atStart => exact ⟨ix, sz, 0, rfl, rfl, rfl, h0, h1, h2, Nat.zero_le _, Lib.hid ⟨64, 0, sz, by omega, by omega, by rw [pow2_64]; omega, by omega, h0, h1, by rw [HN.out]; omega⟩⟩
  case round =>
    obtain ⟨x, y, j, rfl, rfl, rfl, hx0, hxy, hy, hj, HP⟩ := hrel
    by_cases hy2 : 1 < y
    · have hb := blwI_bd (n := y) (by omega)
      have HBB := Lib.hid hb
      obtain ⟨k, hk⟩ : ∃ k, blwI y = k := ⟨_, rfl⟩
      rw [hk] at hb
      have HK := Lib.hid hk
      have hjN : j + 1 ≤ N := by
        obtain ⟨f, b, e, rfl, rfl, q1, q2, q3, q4, q5⟩ := HP.out
        cases f with
        | zero => rw [pow2_zero] at q1; omega
        | succ f => rw [pathL, if_neg (by omega)] at q5; split at q5 <;> (rw [List.length_append] at q5; simp at q5; omega)
      by_cases hlt : x < k
      · have HP2 : Hid (∃ (f : Nat) (b e : Int), x = ix - b ∧ k = e - b ∧ e - b ≤ pow2 f ∧ f ≤ 64 ∧ b ≤ ix ∧ ix < e ∧ j + 1 + (pathL f ix b e).length = N) := Lib.hid (by
          obtain ⟨f, b, e, rfl, rfl, q1, q2, q3, q4, q5⟩ := HP.out
          cases f with
          | zero => rw [pow2_zero] at q1; omega
          | succ f =>
            have hkp := blwI_le_pow (n := e - b) (f := f) (by omega) q1
            rw [pathL, if_neg (by omega), HK.out, if_pos (by omega), List.length_append] at q5
            rw [HK.out] at hkp
            exact ⟨f, b, b + k, rfl, by omega, by omega, by omega, q3, by omega, by simp at q5; omega⟩)
        clear hk
        go_wp2_with fail
        refine (half18 y _ (by omega) hy).mono ?_
        rw [HK.out]
        rintro ev w' ⟨rfl, rfl⟩
        go_wp2
        go_round
        case rel => exact ⟨x, k, j + 1, by go_num, by go_num, by go_num, hx0, hlt, by omega, hjN, HP2⟩
        case measure => simp [intOf]; omega
      · have HP2 : Hid (∃ (f : Nat) (b e : Int), x - k = ix - b ∧ y - k = e - b ∧ e - b ≤ pow2 f ∧ f ≤ 64 ∧ b ≤ ix ∧ ix < e ∧ j + 1 + (pathL f ix b e).length = N) := Lib.hid (by
          obtain ⟨f, b, e, rfl, rfl, q1, q2, q3, q4, q5⟩ := HP.out
          cases f with
          | zero => rw [pow2_zero] at q1; omega
          | succ f =>
            have hkp := blwI_le_pow (n := e - b) (f := f) (by omega) q1
            have hps := pow2_succ f
            rw [pathL, if_neg (by omega), HK.out, if_neg (by omega), List.length_append] at q5
            rw [HK.out] at hkp
            have := HBB.out
            rw [HK.out] at this
            exact ⟨f, b + k, e, by omega, by omega, by omega, by omega, by omega, q4, by simp at q5; omega⟩)
        clear hk
        go_wp2_with fail
        refine (half18 y _ (by omega) hy).mono ?_
        rw [HK.out]
        rintro ev w' ⟨rfl, rfl⟩
        go_wp2
        go_round
        case rel => exact ⟨x - k, y - k, j + 1, by go_num, by go_num, by go_num, by omega, by omega, by omega, hjN, HP2⟩
        case measure => simp [intOf]; omega
    · have HJ : Hid (j = N) := Lib.hid (by
        obtain ⟨f, b, e, rfl, rfl, q1, q2, q3, q4, q5⟩ := HP.out
        cases f with
        | zero => rw [pathL] at q5; simpa using q5
        | succ f => rw [pathL, if_pos (by omega)] at q5; simpa using q5)
      go_wp2
      go_ret
      exact ⟨by rw [← HJ.out]; rfl, rfl⟩
theorem hin_take {w : World} {A : Option Addr} {n c k : Nat} {l : List (List UInt8)} (h : HIn w A n c l) (hk : k ≤ n) : HIn w A k c (l.take k) := by
  obtain ⟨h1, h2, h3, h4, h5⟩ := h
  refine ⟨fun x hx => h1 x (List.mem_of_mem_take hx), by rw [List.length_take]; omega, by omega, h4, ?_⟩
  rcases h5 with rfl | ⟨g, o, rfl, h7⟩
  · exact .inl (by simp)
  · refine .inr ⟨g, o, rfl, fun j v hj => h7 j v ?_⟩
    have e : hashCells l = hashCells (l.take k) ++ hashCells (l.drop k) := by rw [← hashCells_append, List.take_append_drop]
    rw [e, List.getElem?_append_left (List.getElem?_eq_some_iff.1 hj).1]; exact hj
theorem hin_drop {w : World} {g o n c k : Nat} {l : List (List UInt8)} (h : HIn w (some ⟨g, o, none⟩) n c l) (hk : k ≤ n) : HIn w (some ⟨g, o + k * 32, none⟩) (n - k) (c - k) (l.drop k) := by
  obtain ⟨h1, h2, h3, h4, h5⟩ := h
  refine ⟨fun x hx => h1 x (List.mem_of_mem_drop hx), by rw [List.length_drop]; omega, by omega, by omega, ?_⟩
  rcases h5 with rfl | ⟨g', o', e, h7⟩
  · exact .inl (by simp)
  · simp only [Option.some.injEq, Addr.mk.injEq, and_true] at e
    obtain ⟨rfl, rfl⟩ := e
    refine .inr ⟨g, o + k * 32, rfl, fun j v hj => ?_⟩
    have h32 : H32 (l.take k) := fun x hx => h1 x (List.mem_of_mem_take hx)
    have hl : (hashCells (l.take k)).length = k * 32 := by rw [hashCells_length h32, List.length_take]; congr 1; omega
    have e : hashCells l = hashCells (l.take k) ++ hashCells (l.drop k) := by rw [← hashCells_append, List.take_append_drop]
    have := h7 (k * 32 + j) v (by rw [e, List.getElem?_append_right (by omega), hl, Nat.add_sub_cancel_left]; exact hj)
    rwa [show o + k * 32 + j = o + (k * 32 + j) by omega]

theorem sayP_len {lf : List UInt8} (hlf : lf.length = 32) : ∀ {P : List (List UInt8)} (hP : H32 P) (f : Nat) (ix b e : Int), (sayP lf f ix b e P).length = 32 := by
  intro P hP f
  cases f with
  | zero => intro ix b e; exact hlf
  | succ f =>
    intro ix b e
    rw [sayP]
    split
    · exact hlf
    · split <;> exact nodeH_length _ _
set_option maxRecDepth 100000 in
set_option maxHeartbeats 4000000 in
theorem says18_leaf (ix : Int) (lf : List UInt8) (hlf : lf.length = 32) (b e : Int) (n c : Nat) (A : Option Addr) (w : World) (h : e - b < 2) (h1 : b ≤ ix) (h2 : ix < e) :
    Calls Tryz.prog 133 #[.int .u64 (ix - b), .int .u64 (e - b), hv lf, .slice A n c] w fun ev w' => ev = .returned (hv lf) ∧ Below w.heap.size w w' := by
  obtain ⟨vl, evl, Hvl, Zvl, Ivl, Ovl⟩ := row_of lf hlf
  have t1 : (e - b == 1) = true := by simp; omega
  obtain ⟨wv, hwv⟩ : ∃ y, (w.alloc (.cells vl 23)).alloc (.cells (List.replicate 32 (Value.int .u8 0)).toArray 23) = y := ⟨_, rfl⟩
  have HB : Hid (Below w.heap.size w wv) := Lib.hid (by rw [← hwv]; exact ((Below.refl _ _).alloc (Nat.le_refl _) _).alloc (by simp) _)
  have HS1 : Hid (w.heap.size + 1 < wv.heap.size) := Lib.hid (by rw [← hwv]; simp)
  have HS0 : Hid (w.heap.size < wv.heap.size) := Lib.hid (by have := HS1.out; omega)
  have RL : Hid (wv.heap[w.heap.size]? = some (.cells vl 23 (0, 0))) := Lib.hid (by rw [← hwv, ((Below.refl _ _).alloc (Nat.le_refl _) _).block _ (by simp)]; exact heap_at _ _ _ rfl)
  have RV : Hid (wv.heap[w.heap.size + 1]? = some (.cells (List.replicate 32 (Value.int .u8 0)).toArray 23 (0, 0))) := Lib.hid (by rw [← hwv]; exact heap_at _ _ _ (by simp))
  have HWV := Lib.hid hwv
  simp only [List.replicate, List.toArray] at HWV
  rw [evl]
  clear evl hwv h h1 h2
  go_enter Tryz.func133, Tryz.ntmps133
  go_upto_region 1 with fail
  rw [HWV.out]
  go_wp2_with (first
    | (refine wpList_load_row rfl 23 _ rfl w.heap.size rfl 23 vl (0, 0) _ RL.out Tryz.underlying23 rfl Ivl.out ?_)
    | (refine wpList_store_row rfl 23 _ _ rfl (w.heap.size + 1) vl rfl rfl 23 _ RV.out Ivl.out (by rw [Zvl.out]; simp) Ovl.out ?_))
  refine bodyPost_ret (v := .agg vl) (results_cell_row rfl _ _ (w.heap.size + 1) 23 vl (0, 0) _ rfl (setRow_heap _ _ _ _ _ _ RV.out) Tryz.underlying23 rfl Ivl.out) rfl ⟨rfl, below_setRow HB.out _ _ (by omega)⟩
set_option maxRecDepth 100000 in
set_option maxHeartbeats 8000000 in
theorem says18 (ix : Int) (lf : List UInt8) (hlf : lf.length = 32) : ∀ (f : Nat) (b e : Int) (n c : Nat) (A : Option Addr) (P : List (List UInt8)) (w : World), 0 ≤ b → b ≤ ix → ix < e → e ≤ 9223372036854775808 → e - b ≤ pow2 f → f ≤ 64 → P.length = (pathL f ix b e).length → HIn w A n c P →
    Calls Tryz.prog 133 #[.int .u64 (ix - b), .int .u64 (e - b), hv lf, .slice A n c] w fun ev w' => ev = .returned (hv (sayP lf f ix b e P)) ∧ Below w.heap.size w w' := by
  obtain ⟨vl, evl, Hvl, Zvl, Ivl, Ovl⟩ := row_of lf hlf
  intro f
  induction f with
  | zero =>
    intro b e n c A P w hb0 h1 h2 h3 hp hf hl hI
    rw [pow2_zero] at hp
    exact says18_leaf ix lf hlf b e n c A w (by omega) h1 h2
  | succ f ih =>
    intro b e n c A P w hb0 h1 h2 h3 hp hf hl hI
    by_cases hs2 : e - b < 2
    · rw [sayP, if_pos hs2]
      exact says18_leaf ix lf hlf b e n c A w hs2 h1 h2
    · have hk1 := blwI_bd (n := e - b) (by omega)
      have hfu := blwI_le_pow (n := e - b) (f := f) (by omega) hp
      have hps := pow2_succ f
      have HHALF := Lib.hid (fun w' => half18 (e - b) w' (by omega) (by omega))
      obtain ⟨k, hk⟩ : ∃ k, blwI (e - b) = k := ⟨_, rfl⟩
      rw [hk] at hk1 hfu HHALF
      obtain ⟨X, hXs⟩ : ∃ x, ix - b = x := ⟨_, rfl⟩
      obtain ⟨Y, hYs⟩ : ∃ x, e - b = x := ⟨_, rfl⟩
      have hX0 : 0 ≤ X := by omega
      have hXY : X < Y := by omega
      have hY : Y ≤ 9223372036854775808 := by omega
      have hkY : 1 ≤ k ∧ k < Y := by omega
      have t1 : (Y == 1) = false := by simp; omega
      rw [hYs] at HHALF
      rw [hXs, hYs]
      obtain ⟨wv, hwv⟩ : ∃ y, (w.alloc (.cells vl 23)).alloc (.cells (List.replicate 32 (Value.int .u8 0)).toArray 23) = y := ⟨_, rfl⟩
      have HB : Hid (Below w.heap.size w wv) := Lib.hid (by rw [← hwv]; exact ((Below.refl _ _).alloc (Nat.le_refl _) _).alloc (by simp) _)
      have HS1 : Hid (w.heap.size + 1 < wv.heap.size) := Lib.hid (by rw [← hwv]; simp)
      have HS0 : Hid (w.heap.size < wv.heap.size) := Lib.hid (by have := HS1.out; omega)
      have RL : Hid (wv.heap[w.heap.size]? = some (.cells vl 23 (0, 0))) := Lib.hid (by rw [← hwv, ((Below.refl _ _).alloc (Nat.le_refl _) _).block _ (by simp)]; exact heap_at _ _ _ rfl)
      have RV : Hid (wv.heap[w.heap.size + 1]? = some (.cells (List.replicate 32 (Value.int .u8 0)).toArray 23 (0, 0))) := Lib.hid (by rw [← hwv]; exact heap_at _ _ _ (by simp))
      have HWV := Lib.hid hwv
      simp only [List.replicate, List.toArray] at HWV
      by_cases hlt : X < k
      · have hll : P.length = (pathL f ix (b) (b + k)).length + 1 := by
          rw [hl, pathL, if_neg hs2, hk, if_pos (by omega), List.length_append]; rfl
        obtain ⟨P', q, rfl, hl'⟩ := snoc_of hll
        have hm1 : (P' ++ [q]).length = n := hI.2.1
        rw [List.length_append] at hm1
        obtain ⟨m, hm⟩ : ∃ m, P'.length = m := ⟨_, rfl⟩
        have hnm : n = m + 1 := by simp at hm1; omega
        have hI1 := hin_take hI (k := m) (by omega)
        rw [List.take_append_of_le_length (by omega), List.take_of_length_le (by omega)] at hI1
        obtain ⟨g, o, rfl, gl, rq, ql⟩ := hI.row (k := m) (x := q) (by rw [List.getElem?_append_right (by omega), hm, Nat.sub_self]; rfl)
        have HI1 := Lib.hid hI1
        have hsay : ∀ w', But (fun k => k = w.heap.size + 1) wv w' → Calls Tryz.prog 133 #[.int .u64 X, .int .u64 k, hv lf, .slice (some ⟨g, o, none⟩) m c] w' fun ev w2 => ev = .returned (hv (sayP lf f ix (b) (b + k) P')) ∧ Below w'.heap.size w' w2 := fun w' h => by
          have := ih (b) (b + k) m c (some ⟨g, o, none⟩) P' w' (by omega) (by omega) (by omega) (by omega) (by omega) (by omega) hl' (HI1.out.below (HB.out.trans (h.to_below HB.out.size (fun k hk q => by omega))))
          rwa [show ix - b = X by omega, show b + k - b = k by omega] at this
        have l1 : (sayP lf f ix (b) (b + k) P').length = 32 := sayP_len hlf (fun z hz => hI.1 z (by simp [hz])) _ _ _ _
        have hQ : sayP lf (f + 1) ix b e (P' ++ [q]) = nodeH (sayP lf f ix b (b + k) P') q := by
          rw [sayP, if_neg hs2, hk, if_pos (by omega), List.dropLast_concat, last_snoc]
        obtain ⟨x1, hx1⟩ : ∃ x, sayP lf f ix (b) (b + k) P' = x := ⟨_, rfl⟩
        rw [hx1] at hsay l1 hQ
        obtain ⟨v1, ev1, Hv1, Zv1, Iv1, Ov1⟩ := row_of x1 l1
        obtain ⟨vq, evq, Hvq, Zvq, Ivq, Ovq⟩ := row_of q ql
        obtain ⟨vr, evr, Hvr, Zvr, Ivr, Ovr⟩ := row_of (nodeH x1 q) (nodeH_length _ _)
        obtain ⟨pq, hpq⟩ : ∃ z, bytesV q = z := ⟨_, rfl⟩
        have HPV : Hid (pq.toArray = vq) := Lib.hid (by rw [← hpq]; exact Hvq.out)
        have HIQ : Hid ((Tryz.prog.info? 23).map (·.size) = some pq.length) := Lib.hid (by rw [← hpq, bytesV_length, ql]; kernel_rfl)
        have KQ : Hid (∀ w', But (fun k => k = w.heap.size + 1) wv w' → w'.rangeAt g (o + m * 32) pq) := Lib.hid (fun w' h => by rw [← hpq]; exact rangeAt_below (HB.out.trans (h.to_below HB.out.size (fun k hk q => by omega))) rq gl)
        have HNODE : Hid (∀ w', Calls Tryz.prog 138 #[.agg v1, .agg pq.toArray] w' fun ev w2 => ev = .returned (.agg vr) ∧ Below w'.heap.size w' w2) := Lib.hid (fun w' => by
          have := refnode_any x1 q w' l1 ql
          rw [ev1, evq, evr] at this
          rw [HPV.out]; exact this)
        rw [ev1, evl] at hsay
        have HSAY := Lib.hid hsay
        rw [hQ, evr, evl]
        have hnc := hI.2.2.1
        have h64 := hI.2.2.2.1
        have k1 : (m : Int) ≤ c := by omega
        have k2 : (m : Int) < n := by omega
        have k3 : (0 : Int) ≤ m := by omega
        have k4 : IntKind.i64.wrap ((n : Int) - 1) = m := by rw [IntWalk.i64_in _ (by omega)]; omega
        have k5 : (n : Int) - 1 = m := by omega
        have k6 : m ≤ c := by omega
        have k7 : m < n := by omega
        have k10 : m ≤ 64 := by have := pathL_len f ix (b) (b + k); omega
        have k11 : (m : Int) ≤ 64 := by omega
        clear hl hll hl' hm1 hm hnm hI hI1 gl rq ql hsay l1 hQ hx1 ev1 evq evr hpq hwv hnc h64 hp ih hXs hYs hfu
        go_enter Tryz.func133, Tryz.ntmps133
        go_upto_region 1 with fail
        rw [HWV.out]
        go_wp2_with fail
        refine (HHALF.out wv).mono ?_
        rintro ev w0 ⟨rfl, rfl⟩
        go_wp2_with fail
        refine wp_region_held_drew (S := But (fun k => k = w.heap.size + 1) wv) (by kernel_rfl) (But.refl _ _).drew (fun hHeld => ?_)
        refine tk (i := 0) (v := ?v1) rfl ?y1 ?r1
        case y1 => (intro w hSw; (try dsimp only at hSw); go_simp; (try with_reducible rfl))
        try simp only [pu]
        refine tk (i := 1) (v := ?v2) rfl ?y2 ?r2
        case y2 => (intro w hSw; (try dsimp only at hSw); go_simp; (try with_reducible rfl))
        try simp only [pu]
        refine tw (i := 2) rfl (yieldsIf_load_row (by rfl) 23 _ (by rfl) w.heap.size (by rfl) 23 vl (0, 0) _ (fun w h => (But.same h _ HS0.out (by omega)).trans RL.out) Tryz.underlying23 rfl Ivl.out) ?_
        try simp only [pu]
        refine tk (i := 3) (v := ?v4) rfl ?y4 ?r4
        case y4 => (intro w hSw; (try dsimp only at hSw); go_simp; (try with_reducible rfl))
        try simp only [pu]
        refine tk (i := 4) (v := ?v5) rfl ?y5 ?r5
        case y5 => (intro w hSw; (try dsimp only at hSw); go_simp; (try with_reducible rfl))
        try simp only [pu]
        refine tk (i := 5) (v := ?v6) rfl ?y6 ?r6
        case y6 => (intro w hSw; (try dsimp only at hSw); go_simp; (try with_reducible rfl))
        try simp only [pu]
        refine tk (i := 7) (v := ?v7) rfl ?y7 ?r7
        case y7 => (intro w hSw; (try dsimp only at hSw); go_simp; (try with_reducible rfl))
        try simp only [pu]
        refine tk (i := 8) (v := ?v8) rfl ?y8 ?r8
        case y8 => (intro w hSw; (try dsimp only at hSw); go_simp; (try with_reducible rfl))
        try simp only [pu]
        refine tk (i := 9) (v := ?v9) rfl ?y9 ?r9
        case y9 => (intro w hSw; (try dsimp only at hSw); go_simp; (try with_reducible rfl))
        try simp only [pu]
        refine tw (i := 10) rfl (yieldsIf_load_mid (by rfl) 23 _ (by rfl) g (o + m * 32) (by first | rfl | simp) pq _ (fun w h => KQ.out w h) Tryz.underlying23 (by rfl) HIQ.out) ?_
        try simp only [pu]
        refine wpAnyH_ready (rs := [6]) (by kernel_rfl) (by simp) ?_
        refine AllReadyH.cons (i := 6) rfl (fun K2 hK2 => ?_) AllReadyH.nil
        go_simp
        go_at_call 133
        refine (HSAY.out wv.drew ((But.refl (fun k => k = w.heap.size + 1) wv).drew)).mono ?_
        rintro ev w701 ⟨rfl, bw701⟩
        try go_wp2_with fail
        obtain ⟨Kw701, fw701⟩ := st_call ((But.refl (fun k => k = w.heap.size + 1) wv).drew) bw701
        have Kw701 := Lib.hid Kw701
        have Tw701_0 := Lib.hid (fw701 _ _ (show wv.drew.heap[(w.heap.size + 1)]? = _ from RV.out))
        clear bw701 fw701
        refine hK2.out _ _ Kw701.out (fun hHeld2 => ?_)
        clear hK2 K2
        try simp only [pu]
        refine wpAnyH_ready (rs := [11]) (by kernel_rfl) (by simp) ?_
        refine AllReadyH.cons (i := 11) rfl (fun K2 hK2 => ?_) AllReadyH.nil
        go_simp
        go_at_call 138
        refine (HNODE.out w701).mono ?_
        rintro ev w702 ⟨rfl, bw702⟩
        try go_wp2_with fail
        obtain ⟨Kw702, fw702⟩ := st_call Kw701.out bw702
        have Kw702 := Lib.hid Kw702
        have Tw702_0 := Lib.hid (fw702 _ _ Tw701_0.out)
        clear bw702 fw702
        refine hK2.out _ _ Kw702.out (fun hHeld2 => ?_)
        clear hK2 K2
        try simp only [pu]
        refine wpAnyH_ready (rs := [12]) (by kernel_rfl) (by simp) ?_
        refine AllReadyH.cons (i := 12) rfl (fun K2 hK2 => ?_) AllReadyH.nil
        rw [if_pos (by rfl)]
        refine wp_store_row 23 _ _ rfl (w.heap.size + 1) vr rfl rfl 23 _ Tw702_0.out Ivr.out (by rw [Zvr.out]; rfl) Ovr.out ?_
        obtain ⟨w703, hw703⟩ : ∃ x, w702.setRow (w.heap.size + 1) vr = x := ⟨_, rfl⟩
        obtain ⟨Kw703, Tw703_0, fw703⟩ := st_row Kw702.out hw703 (fun _ => rfl) Tw702_0.out
        have Kw703 := Lib.hid Kw703
        have Tw703_0 := Lib.hid Tw703_0
        clear fw703
        rw [hw703]
        clear hw703
        refine hK2.out _ _ Kw703.out (fun hHeld2 => ?_)
        clear hK2 K2
        try simp only [pu]
        refine wpAnyH_done (by kernel_rfl) ?_ _
        go_wp2
        refine bodyPost_ret (v := .agg vr) (results_cell_row rfl _ _ (w.heap.size + 1) 23 vr (0, 0) _ rfl Tw703_0.out Tryz.underlying23 rfl Ivr.out) rfl ⟨rfl, HB.out.trans (But.to_below Kw703.out HB.out.size (fun k hk q => by omega))⟩
      · have hll : P.length = (pathL f ix (b + k) (e)).length + 1 := by
          rw [hl, pathL, if_neg hs2, hk, if_neg (by omega), List.length_append]; rfl
        obtain ⟨P', q, rfl, hl'⟩ := snoc_of hll
        have hm1 : (P' ++ [q]).length = n := hI.2.1
        rw [List.length_append] at hm1
        obtain ⟨m, hm⟩ : ∃ m, P'.length = m := ⟨_, rfl⟩
        have hnm : n = m + 1 := by simp at hm1; omega
        have hI1 := hin_take hI (k := m) (by omega)
        rw [List.take_append_of_le_length (by omega), List.take_of_length_le (by omega)] at hI1
        obtain ⟨g, o, rfl, gl, rq, ql⟩ := hI.row (k := m) (x := q) (by rw [List.getElem?_append_right (by omega), hm, Nat.sub_self]; rfl)
        have HI1 := Lib.hid hI1
        have hsay : ∀ w', But (fun k => k = w.heap.size + 1) wv w' → Calls Tryz.prog 133 #[.int .u64 (X - k), .int .u64 (Y - k), hv lf, .slice (some ⟨g, o, none⟩) m c] w' fun ev w2 => ev = .returned (hv (sayP lf f ix (b + k) (e) P')) ∧ Below w'.heap.size w' w2 := fun w' h => by
          have := ih (b + k) (e) m c (some ⟨g, o, none⟩) P' w' (by omega) (by omega) (by omega) (by omega) (by omega) (by omega) hl' (HI1.out.below (HB.out.trans (h.to_below HB.out.size (fun k hk q => by omega))))
          rwa [show ix - (b + k) = X - k by omega, show e - (b + k) = Y - k by omega] at this
        have l1 : (sayP lf f ix (b + k) (e) P').length = 32 := sayP_len hlf (fun z hz => hI.1 z (by simp [hz])) _ _ _ _
        have hQ : sayP lf (f + 1) ix b e (P' ++ [q]) = nodeH q (sayP lf f ix (b + k) e P') := by
          rw [sayP, if_neg hs2, hk, if_neg (by omega), List.dropLast_concat, last_snoc]
        obtain ⟨x1, hx1⟩ : ∃ x, sayP lf f ix (b + k) (e) P' = x := ⟨_, rfl⟩
        rw [hx1] at hsay l1 hQ
        obtain ⟨v1, ev1, Hv1, Zv1, Iv1, Ov1⟩ := row_of x1 l1
        obtain ⟨vq, evq, Hvq, Zvq, Ivq, Ovq⟩ := row_of q ql
        obtain ⟨vr, evr, Hvr, Zvr, Ivr, Ovr⟩ := row_of (nodeH q x1) (nodeH_length _ _)
        obtain ⟨pq, hpq⟩ : ∃ z, bytesV q = z := ⟨_, rfl⟩
        have HPV : Hid (pq.toArray = vq) := Lib.hid (by rw [← hpq]; exact Hvq.out)
        have HIQ : Hid ((Tryz.prog.info? 23).map (·.size) = some pq.length) := Lib.hid (by rw [← hpq, bytesV_length, ql]; kernel_rfl)
        have KQ : Hid (∀ w', But (fun k => k = w.heap.size + 1) wv w' → w'.rangeAt g (o + m * 32) pq) := Lib.hid (fun w' h => by rw [← hpq]; exact rangeAt_below (HB.out.trans (h.to_below HB.out.size (fun k hk q => by omega))) rq gl)
        have HNODE : Hid (∀ w', Calls Tryz.prog 138 #[.agg pq.toArray, .agg v1] w' fun ev w2 => ev = .returned (.agg vr) ∧ Below w'.heap.size w' w2) := Lib.hid (fun w' => by
          have := refnode_any q x1 w' ql l1
          rw [ev1, evq, evr] at this
          rw [HPV.out]; exact this)
        rw [ev1, evl] at hsay
        have HSAY := Lib.hid hsay
        rw [hQ, evr, evl]
        have hnc := hI.2.2.1
        have h64 := hI.2.2.2.1
        have k1 : (m : Int) ≤ c := by omega
        have k2 : (m : Int) < n := by omega
        have k3 : (0 : Int) ≤ m := by omega
        have k4 : IntKind.i64.wrap ((n : Int) - 1) = m := by rw [IntWalk.i64_in _ (by omega)]; omega
        have k5 : (n : Int) - 1 = m := by omega
        have k6 : m ≤ c := by omega
        have k7 : m < n := by omega
        have k10 : m ≤ 64 := by have := pathL_len f ix (b + k) (e); omega
        have k11 : (m : Int) ≤ 64 := by omega
        have k8 : IntKind.u64.wrap (X - k) = X - k := IntWalk.u64_in _ (by omega)
        have k9 : IntKind.u64.wrap (Y - k) = Y - k := IntWalk.u64_in _ (by omega)
        clear hl hll hl' hm1 hm hnm hI hI1 gl rq ql hsay l1 hQ hx1 ev1 evq evr hpq hwv hnc h64 hp ih hXs hYs hfu
        go_enter Tryz.func133, Tryz.ntmps133
        go_upto_region 1 with fail
        rw [HWV.out]
        go_wp2_with fail
        refine (HHALF.out wv).mono ?_
        rintro ev w0 ⟨rfl, rfl⟩
        go_wp2_with fail
        refine wp_region_held_drew (S := But (fun k => k = w.heap.size + 1) wv) (by kernel_rfl) (But.refl _ _).drew (fun hHeld => ?_)
        refine tk (i := 0) (v := ?v11) rfl ?y11 ?r11
        case y11 => (intro w hSw; (try dsimp only at hSw); go_simp; (try with_reducible rfl))
        try simp only [pu]
        refine tk (i := 1) (v := ?v12) rfl ?y12 ?r12
        case y12 => (intro w hSw; (try dsimp only at hSw); go_simp; (try with_reducible rfl))
        try simp only [pu]
        refine tk (i := 2) (v := ?v13) rfl ?y13 ?r13
        case y13 => (intro w hSw; (try dsimp only at hSw); go_simp; (try with_reducible rfl))
        try simp only [pu]
        refine tw (i := 3) rfl (yieldsIf_load_mid (by rfl) 23 _ (by rfl) g (o + m * 32) (by first | rfl | simp) pq _ (fun w h => KQ.out w h) Tryz.underlying23 (by rfl) HIQ.out) ?_
        try simp only [pu]
        refine tk (i := 4) (v := ?v15) rfl ?y15 ?r15
        case y15 => (intro w hSw; (try dsimp only at hSw); go_simp; (try with_reducible rfl))
        try simp only [pu]
        refine tk (i := 5) (v := ?v16) rfl ?y16 ?r16
        case y16 => (intro w hSw; (try dsimp only at hSw); go_simp; (try with_reducible rfl))
        try simp only [pu]
        refine tk (i := 6) (v := ?v17) rfl ?y17 ?r17
        case y17 => (intro w hSw; (try dsimp only at hSw); go_simp; (try with_reducible rfl))
        try simp only [pu]
        refine tk (i := 7) (v := ?v18) rfl ?y18 ?r18
        case y18 => (intro w hSw; (try dsimp only at hSw); go_simp; (try with_reducible rfl))
        try simp only [pu]
        refine tk (i := 8) (v := ?v19) rfl ?y19 ?r19
        case y19 => (intro w hSw; (try dsimp only at hSw); go_simp; (try with_reducible rfl))
        try simp only [pu]
        refine tk (i := 9) (v := ?v20) rfl ?y20 ?r20
        case y20 => (intro w hSw; (try dsimp only at hSw); go_simp; (try with_reducible rfl))
        try simp only [pu]
        refine tw (i := 10) rfl (yieldsIf_load_row (by rfl) 23 _ (by rfl) w.heap.size (by rfl) 23 vl (0, 0) _ (fun w h => (But.same h _ HS0.out (by omega)).trans RL.out) Tryz.underlying23 rfl Ivl.out) ?_
        try simp only [pu]
        refine tk (i := 11) (v := ?v22) rfl ?y22 ?r22
        case y22 => (intro w hSw; (try dsimp only at hSw); go_simp; (try with_reducible rfl))
        try simp only [pu]
        refine tk (i := 12) (v := ?v23) rfl ?y23 ?r23
        case y23 => (intro w hSw; (try dsimp only at hSw); go_simp; (try with_reducible rfl))
        try simp only [pu]
        refine tk (i := 13) (v := ?v24) rfl ?y24 ?r24
        case y24 => (intro w hSw; (try dsimp only at hSw); go_simp; (try with_reducible rfl))
        try simp only [pu]
        refine wpAnyH_ready (rs := [14]) (by kernel_rfl) (by simp) ?_
        refine AllReadyH.cons (i := 14) rfl (fun K2 hK2 => ?_) AllReadyH.nil
        go_simp
        go_at_call 133
        refine (HSAY.out wv.drew ((But.refl (fun k => k = w.heap.size + 1) wv).drew)).mono ?_
        rintro ev w704 ⟨rfl, bw704⟩
        try go_wp2_with fail
        obtain ⟨Kw704, fw704⟩ := st_call ((But.refl (fun k => k = w.heap.size + 1) wv).drew) bw704
        have Kw704 := Lib.hid Kw704
        have Tw704_0 := Lib.hid (fw704 _ _ (show wv.drew.heap[(w.heap.size + 1)]? = _ from RV.out))
        clear bw704 fw704
        refine hK2.out _ _ Kw704.out (fun hHeld2 => ?_)
        clear hK2 K2
        try simp only [pu]
        refine wpAnyH_ready (rs := [15]) (by kernel_rfl) (by simp) ?_
        refine AllReadyH.cons (i := 15) rfl (fun K2 hK2 => ?_) AllReadyH.nil
        go_simp
        go_at_call 138
        refine (HNODE.out w704).mono ?_
        rintro ev w705 ⟨rfl, bw705⟩
        try go_wp2_with fail
        obtain ⟨Kw705, fw705⟩ := st_call Kw704.out bw705
        have Kw705 := Lib.hid Kw705
        have Tw705_0 := Lib.hid (fw705 _ _ Tw704_0.out)
        clear bw705 fw705
        refine hK2.out _ _ Kw705.out (fun hHeld2 => ?_)
        clear hK2 K2
        try simp only [pu]
        refine wpAnyH_ready (rs := [16]) (by kernel_rfl) (by simp) ?_
        refine AllReadyH.cons (i := 16) rfl (fun K2 hK2 => ?_) AllReadyH.nil
        rw [if_pos (by rfl)]
        refine wp_store_row 23 _ _ rfl (w.heap.size + 1) vr rfl rfl 23 _ Tw705_0.out Ivr.out (by rw [Zvr.out]; rfl) Ovr.out ?_
        obtain ⟨w706, hw706⟩ : ∃ x, w705.setRow (w.heap.size + 1) vr = x := ⟨_, rfl⟩
        obtain ⟨Kw706, Tw706_0, fw706⟩ := st_row Kw705.out hw706 (fun _ => rfl) Tw705_0.out
        have Kw706 := Lib.hid Kw706
        have Tw706_0 := Lib.hid Tw706_0
        clear fw706
        rw [hw706]
        clear hw706
        refine hK2.out _ _ Kw706.out (fun hHeld2 => ?_)
        clear hK2 K2
        try simp only [pu]
        refine wpAnyH_done (by kernel_rfl) ?_ _
        go_wp2
        refine bodyPost_ret (v := .agg vr) (results_cell_row rfl _ _ (w.heap.size + 1) 23 vr (0, 0) _ rfl Tw706_0.out Tryz.underlying23 rfl Ivr.out) rfl ⟨rfl, HB.out.trans (But.to_below Kw706.out HB.out.size (fun k hk q => by omega))⟩
end Go.Proofs.YtnpblpbcchminaaGreatDoor

/- cartularyref18.Root, Inclusion: what a path says that the root is; the fault. No condition. -/
namespace Go.Proofs.YtnpblpbcchminaaGreatDoor
open Go.ChangeShapes Go.WideShapes Go.ChangeAt Go.RowKit
set_option linter.unusedVariables false
theorem plain18 (k : Nat) (hk : k ≠ 0) (hk2 : k < 100) (w : World) : Calls Tryz.prog 17 #[.int .i64 (k : Int)] w fun ev w' => ev = .returned (faultV k) ∧ Below w.heap.size w w' := by
  unfold faultV
  rw [if_neg hk]
  have h0 : ((k : Int) == 0) = false := by simp; exact hk
  have k1 : (0 : Int) ≤ k := by omega
  have k2 : (k : Int) < 100 := by omega
  go_enter Tryz.func17, Tryz.ntmps17
  go_wp2
  refine bodyPost_ret (v := .agg #[.int .i64 (k : Int), .int .i64 (-1)]) (by simp [results, Tryz.results17, go_sem]) rfl ⟨rfl, ?_⟩
  repeat (first | exact Below.refl _ _ | (refine below_drewN ?_) | (refine Below.drew ?_) | (refine Below.alloc ?_ (by simp; try omega) _) | (refine Below.setCell ?_ (by simp; try omega) _))
theorem zero_row : ∃ vz : Array Value, hv zeroH = .agg vz ∧ Hid (vz = (List.replicate 32 (Value.int .u8 0)).toArray) ∧ Hid (vz.size = 32) ∧ Hid ((Tryz.prog.info? 23).map (·.size) = some vz.size) ∧ Hid (vz.all (·.oneCell') = true) := by
  refine ⟨_, zeroH_v, Lib.hid rfl, Lib.hid rfl, Lib.hid (by kernel_rfl), Lib.hid (by simp [List.replicate, Value.oneCell'])⟩

set_option maxRecDepth 100000 in
set_option maxHeartbeats 4000000 in
theorem root18_range (ix sz : Int) (lf : List UInt8) (hlf : lf.length = 32) (P : List (List UInt8)) (A : Option Addr) (n c : Nat) (w : World) (h0 : 0 ≤ ix) (hix : ix < 18446744073709551616) (hs0 : 0 ≤ sz) (hsz : sz ≤ 9223372036854775808) (hI : HIn w A n c P) (h1 : sz ≤ ix) :
    Calls Tryz.prog 41 #[.int .u64 ix, .int .u64 sz, hv lf, .slice A n c] w fun ev w' => ev = .returned (.tuple #[hv zeroH, faultV 5]) ∧ Below w.heap.size w w' := by
  obtain ⟨vl, evl, Hvl, Zvl, Ivl, Ovl⟩ := row_of lf hlf
  obtain ⟨vf, evf, HVF, Zvf, Ivf, Ovf⟩ := fault_of 5
  obtain ⟨wv, hwv⟩ : ∃ y, (((w.alloc (.cells vl 23)).alloc (.cells (List.replicate 32 (Value.int .u8 0)).toArray 23)).alloc (.cells #[.int .i64 0, .int .i64 0] 34)) = y := ⟨_, rfl⟩
  have HB : Hid (Below w.heap.size w wv) := Lib.hid (by rw [← hwv]; exact ((((Below.refl _ _).alloc (by simp; try omega) _).alloc (by simp; try omega) _).alloc (by simp; try omega) _))
  have HSV : Hid (wv.heap.size = w.heap.size + 1 + 1 + 1) := Lib.hid (by rw [← hwv]; simp)
  have RL : Hid (wv.heap[w.heap.size]? = some (.cells vl 23 (0, 0))) := Lib.hid (by rw [← hwv]; simp only [World.alloc, Array.getElem?_push, Array.size_push]; (repeat' split) <;> first | rfl | (exfalso; omega) | simp_all)
  have RV : Hid (wv.heap[(w.heap.size + 1)]? = some (.cells (List.replicate 32 (Value.int .u8 0)).toArray 23 (0, 0))) := Lib.hid (by rw [← hwv]; simp only [World.alloc, Array.getElem?_push, Array.size_push]; (repeat' split) <;> first | rfl | (exfalso; omega) | simp_all)
  have RF : Hid (wv.heap[(w.heap.size + 1 + 1)]? = some (.cells #[.int .i64 0, .int .i64 0] 34 (0, 0))) := Lib.hid (by rw [← hwv]; simp only [World.alloc, Array.getElem?_push, Array.size_push]; (repeat' split) <;> first | rfl | (exfalso; omega) | simp_all)
  have HWV := Lib.hid hwv
  simp only [List.replicate, List.toArray] at HWV
  obtain ⟨vr, evr, Hvr, Zvr, Ivr, Ovr⟩ := zero_row
  have PLAIN : Hid (∀ w, Calls Tryz.prog 17 #[.int .i64 5] w fun ev w' => ev = .returned (.agg vf) ∧ Below w.heap.size w w') := Lib.hid (fun w => by rw [← evf]; exact plain18 5 (by decide) (by decide) w)
  have q1 : decide (9223372036854775808 < sz) = false := by simp; omega
  have q2 : decide (sz ≤ ix) = true := by simp; omega
  have q3 : ¬ ix < sz := by omega
  rw [evl, evf, evr]
  clear hwv evl evf evr hI hs0 
  go_enter Tryz.func41, Tryz.ntmps41
  go_upto_region 1 with fail
  rw [HWV.out]
  go_wp2_with fail
  refine (PLAIN.out wv).mono ?_
  rintro ev w1 ⟨rfl, b1⟩
  have R91 : Hid (w1.heap[(w.heap.size + 1)]? = some (.cells (List.replicate 32 (Value.int .u8 0)).toArray 23 (0, 0))) := Lib.hid ((b1.block _ (by have := HSV.out; omega)).trans RV.out)
  have R101 : Hid (w1.heap[(w.heap.size + 1 + 1)]? = some (.cells #[.int .i64 0, .int .i64 0] 34 (0, 0))) := Lib.hid ((b1.block _ (by have := HSV.out; omega)).trans RF.out)
  have HB1 : Hid (Below w.heap.size w w1) := Lib.hid (HB.out.trans (b1.mono HB.out.size))
  clear b1
  go_wp2_with (first
    | (refine wpList_store_row rfl 23 _ _ rfl (w.heap.size + 1) vr rfl (by rw [Hvr.out]; rfl) 23 _ R91.out Ivr.out (by rw [Zvr.out]; rfl) Ovr.out ?_)
    | (refine wpList_store_row rfl 34 _ _ rfl (w.heap.size + 1 + 1) vf rfl rfl 34 _ ((setRow_other _ _ _ _ (by omega)).trans R101.out) Ivf.out (by rw [Zvf.out]; rfl) Ovf.out ?_))
  refine bodyPost_ret (v := .tuple #[.agg vr, .agg vf]) (results_row_row rfl _ _ (w.heap.size + 1) (w.heap.size + 1 + 1) 23 34 vr vf (0, 0) (0, 0) _ _ rfl ((setRow_other _ _ _ _ (by omega)).trans (setRow_heap _ _ _ _ _ _ R91.out)) rfl (setRow_heap _ _ _ _ _ _ ((setRow_other _ _ _ _ (by omega)).trans R101.out)) Tryz.underlying23 rfl Ivr.out Tryz.underlying34 rfl Ivf.out) rfl ⟨rfl, below_setRow (below_setRow HB1.out _ _ (by omega)) _ _ (by omega)⟩

set_option maxRecDepth 100000 in
set_option maxHeartbeats 4000000 in
theorem root18_len (ix sz : Int) (lf : List UInt8) (hlf : lf.length = 32) (P : List (List UInt8)) (A : Option Addr) (n c : Nat) (w : World) (h0 : 0 ≤ ix) (hix : ix < 18446744073709551616) (hs0 : 0 ≤ sz) (hsz : sz ≤ 9223372036854775808) (hI : HIn w A n c P) (h1 : ix < sz) (hl : P.length ≠ (pathL 64 ix 0 sz).length) :
    Calls Tryz.prog 41 #[.int .u64 ix, .int .u64 sz, hv lf, .slice A n c] w fun ev w' => ev = .returned (.tuple #[hv zeroH, faultV 10]) ∧ Below w.heap.size w w' := by
  obtain ⟨vl, evl, Hvl, Zvl, Ivl, Ovl⟩ := row_of lf hlf
  obtain ⟨vf, evf, HVF, Zvf, Ivf, Ovf⟩ := fault_of 10
  obtain ⟨wv, hwv⟩ : ∃ y, (((w.alloc (.cells vl 23)).alloc (.cells (List.replicate 32 (Value.int .u8 0)).toArray 23)).alloc (.cells #[.int .i64 0, .int .i64 0] 34)) = y := ⟨_, rfl⟩
  have HB : Hid (Below w.heap.size w wv) := Lib.hid (by rw [← hwv]; exact ((((Below.refl _ _).alloc (by simp; try omega) _).alloc (by simp; try omega) _).alloc (by simp; try omega) _))
  have HSV : Hid (wv.heap.size = w.heap.size + 1 + 1 + 1) := Lib.hid (by rw [← hwv]; simp)
  have RL : Hid (wv.heap[w.heap.size]? = some (.cells vl 23 (0, 0))) := Lib.hid (by rw [← hwv]; simp only [World.alloc, Array.getElem?_push, Array.size_push]; (repeat' split) <;> first | rfl | (exfalso; omega) | simp_all)
  have RV : Hid (wv.heap[(w.heap.size + 1)]? = some (.cells (List.replicate 32 (Value.int .u8 0)).toArray 23 (0, 0))) := Lib.hid (by rw [← hwv]; simp only [World.alloc, Array.getElem?_push, Array.size_push]; (repeat' split) <;> first | rfl | (exfalso; omega) | simp_all)
  have RF : Hid (wv.heap[(w.heap.size + 1 + 1)]? = some (.cells #[.int .i64 0, .int .i64 0] 34 (0, 0))) := Lib.hid (by rw [← hwv]; simp only [World.alloc, Array.getElem?_push, Array.size_push]; (repeat' split) <;> first | rfl | (exfalso; omega) | simp_all)
  have HWV := Lib.hid hwv
  simp only [List.replicate, List.toArray] at HWV
  obtain ⟨vr, evr, Hvr, Zvr, Ivr, Ovr⟩ := zero_row
  have PLAIN : Hid (∀ w, Calls Tryz.prog 17 #[.int .i64 10] w fun ev w' => ev = .returned (.agg vf) ∧ Below w.heap.size w w') := Lib.hid (fun w => by rw [← evf]; exact plain18 10 (by decide) (by decide) w)
  have HLO : Hid (∀ w', Calls Tryz.prog 132 #[.int .u64 ix, .int .u64 sz] w' fun ev w2 => ev = .returned (.int .i64 (pathL 64 ix 0 sz).length) ∧ w' = w2) := Lib.hid (fun w' => long18 ix sz w' h0 h1 hsz)
  have hN64 := pathL_len 64 ix 0 sz
  obtain ⟨N, hN⟩ : ∃ N, (pathL 64 ix 0 sz).length = N := ⟨_, rfl⟩
  rw [hN] at HLO hN64 hl
  have hPn := hI.2.1
  have q1 : decide (9223372036854775808 < sz) = false := by simp; omega
  have q2 : decide (sz ≤ ix) = false := by simp; omega
  have q4 : ((n : Int) != (N : Int)) = true := by simp; omega
  have hnn : n ≤ 9223372036854775807 := Nat.le_trans hI.2.2.1 hI.2.2.2.1
  rw [evl, evf, evr]
  clear hwv evl evf evr hI hs0 hN hPn hl 
  go_enter Tryz.func41, Tryz.ntmps41
  go_upto_region 1 with fail
  rw [HWV.out]
  go_wp2_with fail
  refine (HLO.out wv).mono ?_
  rintro ev w0 ⟨rfl, rfl⟩
  go_wp2_with fail
  refine (PLAIN.out wv).mono ?_
  rintro ev w1 ⟨rfl, b1⟩
  have R91 : Hid (w1.heap[(w.heap.size + 1)]? = some (.cells (List.replicate 32 (Value.int .u8 0)).toArray 23 (0, 0))) := Lib.hid ((b1.block _ (by have := HSV.out; omega)).trans RV.out)
  have R101 : Hid (w1.heap[(w.heap.size + 1 + 1)]? = some (.cells #[.int .i64 0, .int .i64 0] 34 (0, 0))) := Lib.hid ((b1.block _ (by have := HSV.out; omega)).trans RF.out)
  have HB1 : Hid (Below w.heap.size w w1) := Lib.hid (HB.out.trans (b1.mono HB.out.size))
  clear b1
  go_wp2_with (first
    | (refine wpList_store_row rfl 23 _ _ rfl (w.heap.size + 1) vr rfl (by rw [Hvr.out]; rfl) 23 _ R91.out Ivr.out (by rw [Zvr.out]; rfl) Ovr.out ?_)
    | (refine wpList_store_row rfl 34 _ _ rfl (w.heap.size + 1 + 1) vf rfl rfl 34 _ ((setRow_other _ _ _ _ (by omega)).trans R101.out) Ivf.out (by rw [Zvf.out]; rfl) Ovf.out ?_))
  refine bodyPost_ret (v := .tuple #[.agg vr, .agg vf]) (results_row_row rfl _ _ (w.heap.size + 1) (w.heap.size + 1 + 1) 23 34 vr vf (0, 0) (0, 0) _ _ rfl ((setRow_other _ _ _ _ (by omega)).trans (setRow_heap _ _ _ _ _ _ R91.out)) rfl (setRow_heap _ _ _ _ _ _ ((setRow_other _ _ _ _ (by omega)).trans R101.out)) Tryz.underlying23 rfl Ivr.out Tryz.underlying34 rfl Ivf.out) rfl ⟨rfl, below_setRow (below_setRow HB1.out _ _ (by omega)) _ _ (by omega)⟩

set_option maxRecDepth 100000 in
set_option maxHeartbeats 4000000 in
theorem root18_ok (ix sz : Int) (lf : List UInt8) (hlf : lf.length = 32) (P : List (List UInt8)) (A : Option Addr) (n c : Nat) (w : World) (h0 : 0 ≤ ix) (hix : ix < 18446744073709551616) (hs0 : 0 ≤ sz) (hsz : sz ≤ 9223372036854775808) (hI : HIn w A n c P) (h1 : ix < sz) (hl : P.length = (pathL 64 ix 0 sz).length) :
    Calls Tryz.prog 41 #[.int .u64 ix, .int .u64 sz, hv lf, .slice A n c] w fun ev w' => ev = .returned (.tuple #[hv (sayP lf 64 ix 0 sz P), faultV 0]) ∧ Below w.heap.size w w' := by
  obtain ⟨vl, evl, Hvl, Zvl, Ivl, Ovl⟩ := row_of lf hlf
  obtain ⟨vf, evf, HVF, Zvf, Ivf, Ovf⟩ := fault_of 0
  obtain ⟨wv, hwv⟩ : ∃ y, (((w.alloc (.cells vl 23)).alloc (.cells (List.replicate 32 (Value.int .u8 0)).toArray 23)).alloc (.cells #[.int .i64 0, .int .i64 0] 34)) = y := ⟨_, rfl⟩
  have HB : Hid (Below w.heap.size w wv) := Lib.hid (by rw [← hwv]; exact ((((Below.refl _ _).alloc (by simp; try omega) _).alloc (by simp; try omega) _).alloc (by simp; try omega) _))
  have HSV : Hid (wv.heap.size = w.heap.size + 1 + 1 + 1) := Lib.hid (by rw [← hwv]; simp)
  have RL : Hid (wv.heap[w.heap.size]? = some (.cells vl 23 (0, 0))) := Lib.hid (by rw [← hwv]; simp only [World.alloc, Array.getElem?_push, Array.size_push]; (repeat' split) <;> first | rfl | (exfalso; omega) | simp_all)
  have RV : Hid (wv.heap[(w.heap.size + 1)]? = some (.cells (List.replicate 32 (Value.int .u8 0)).toArray 23 (0, 0))) := Lib.hid (by rw [← hwv]; simp only [World.alloc, Array.getElem?_push, Array.size_push]; (repeat' split) <;> first | rfl | (exfalso; omega) | simp_all)
  have RF : Hid (wv.heap[(w.heap.size + 1 + 1)]? = some (.cells #[.int .i64 0, .int .i64 0] 34 (0, 0))) := Lib.hid (by rw [← hwv]; simp only [World.alloc, Array.getElem?_push, Array.size_push]; (repeat' split) <;> first | rfl | (exfalso; omega) | simp_all)
  have HWV := Lib.hid hwv
  simp only [List.replicate, List.toArray] at HWV
  have l1 := sayP_len hlf hI.1 64 ix 0 sz
  obtain ⟨vr, evr, Hvr, Zvr, Ivr, Ovr⟩ := row_of _ l1
  have HSAY : Hid (Calls Tryz.prog 133 #[.int .u64 ix, .int .u64 sz, .agg vl, .slice A n c] wv fun ev w' => ev = .returned (.agg vr) ∧ Below wv.heap.size wv w') := Lib.hid (by
    have := says18 ix lf hlf 64 0 sz n c A P wv (by omega) h0 h1 hsz (by rw [pow2_64]; omega) (by omega) hl (hI.below HB.out)
    rw [Int.sub_zero, Int.sub_zero, evl, evr] at this; exact this)
  have HLO : Hid (∀ w', Calls Tryz.prog 132 #[.int .u64 ix, .int .u64 sz] w' fun ev w2 => ev = .returned (.int .i64 (pathL 64 ix 0 sz).length) ∧ w' = w2) := Lib.hid (fun w' => long18 ix sz w' h0 h1 hsz)
  have hN64 := pathL_len 64 ix 0 sz
  obtain ⟨N, hN⟩ : ∃ N, (pathL 64 ix 0 sz).length = N := ⟨_, rfl⟩
  rw [hN] at HLO hN64 hl
  have hPn := hI.2.1
  have q1 : decide (9223372036854775808 < sz) = false := by simp; omega
  have q2 : decide (sz ≤ ix) = false := by simp; omega
  have q4 : ((n : Int) != (N : Int)) = false := by simp; omega
  have hnn : n ≤ 9223372036854775807 := Nat.le_trans hI.2.2.1 hI.2.2.2.1
  rw [evl, evf, evr]
  clear hwv evl evf evr hI hs0 l1 hN hPn hl 
  go_enter Tryz.func41, Tryz.ntmps41
  go_upto_region 1 with fail
  rw [HWV.out]
  go_wp2_with fail
  refine (HLO.out wv).mono ?_
  rintro ev w0 ⟨rfl, rfl⟩
  go_wp2_with (refine wpList_load_row rfl 23 _ rfl w.heap.size rfl 23 vl (0, 0) _ RL.out Tryz.underlying23 rfl Ivl.out ?_)
  refine HSAY.out.mono ?_
  rintro ev w1 ⟨rfl, b1⟩
  have R91 : Hid (w1.heap[(w.heap.size + 1)]? = some (.cells (List.replicate 32 (Value.int .u8 0)).toArray 23 (0, 0))) := Lib.hid ((b1.block _ (by have := HSV.out; omega)).trans RV.out)
  have R101 : Hid (w1.heap[(w.heap.size + 1 + 1)]? = some (.cells #[.int .i64 0, .int .i64 0] 34 (0, 0))) := Lib.hid ((b1.block _ (by have := HSV.out; omega)).trans RF.out)
  have HB1 : Hid (Below w.heap.size w w1) := Lib.hid (HB.out.trans (b1.mono HB.out.size))
  clear b1
  go_wp2_with (first
    | (refine wpList_store_row rfl 23 _ _ rfl (w.heap.size + 1) vr rfl rfl 23 _ R91.out Ivr.out (by rw [Zvr.out]; rfl) Ovr.out ?_)
    | (refine wpList_store_row rfl 34 _ _ rfl (w.heap.size + 1 + 1) vf rfl (by rw [HVF.out]; rfl) 34 _ ((setRow_other _ _ _ _ (by omega)).trans R101.out) Ivf.out (by rw [Zvf.out]; rfl) Ovf.out ?_))
  refine bodyPost_ret (v := .tuple #[.agg vr, .agg vf]) (results_row_row rfl _ _ (w.heap.size + 1) (w.heap.size + 1 + 1) 23 34 vr vf (0, 0) (0, 0) _ _ rfl ((setRow_other _ _ _ _ (by omega)).trans (setRow_heap _ _ _ _ _ _ R91.out)) rfl (setRow_heap _ _ _ _ _ _ ((setRow_other _ _ _ _ (by omega)).trans R101.out)) Tryz.underlying23 rfl Ivr.out Tryz.underlying34 rfl Ivf.out) rfl ⟨rfl, below_setRow (below_setRow HB1.out _ _ (by omega)) _ _ (by omega)⟩

end Go.Proofs.YtnpblpbcchminaaGreatDoor

